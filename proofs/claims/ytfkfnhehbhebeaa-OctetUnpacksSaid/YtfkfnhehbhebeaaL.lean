/- Texts that are the same are told so; what texts' reading leaves, step by step. -/
import Derived.Test.YtfkfnhehbhebeaaK
namespace Go.Proofs.Ytfkfnhehbhebeaa
set_option linter.unusedSimpArgs false
set_option linter.unusedVariables false
open Go.RowKit

set_option maxRecDepth 100000 in
set_option maxHeartbeats 8000000 in
theorem same_any (w : World) (a b : Option Addr) (c d : Nat) (l : List ByteArray) (hA : Hid (TextsAt w a l)) (hB : Hid (TextsAt w b l)) (hl : l.length ≤ 1000000) :
    Calls Try.prog 32 #[.slice a l.length c, .slice b l.length d] w fun e w' => e = .returned (.bool true) ∧ Ext w w' := by
  go_enter Try.func32, Try.ntmps32
  go_wp2_with fail
  go_loopw [5] (fun i wr => ∃ j : Nat, i = .int .i64 j ∧ j ≤ l.length ∧ Ext w wr) (fun i _ => l.length - (intOf i).toNat)
  case atStart => exact ⟨0, rfl, by omega, Ext.refl w⟩
  case round =>
    obtain ⟨j, rfl, hj, hx⟩ := hrel
    by_cases hlt : j < l.length
    · have hlt2 : (j : Int) < l.length := by omega
      obtain ⟨g, o, rfl, hc⟩ := (hA.out.ext hx).get hlt
      obtain ⟨g', o', rfl, hc'⟩ := (hB.out.ext hx).get hlt
      generalize l[j] = s at *
      go_wp2_with fail
      refine region_held none [(0, true), (1, true), (2, true), (3, true), (4, true), (5, true), (6, true), (7, true), (8, true)] [] (by kernel_rfl) (by kernel_rfl) (fun _ _ d _ _ h => by cases d <;> exact h) (fun W hW => ?_)
      simp only [pick, pickF, List.getElem?_cons_zero, List.getElem?_cons_succ]
      have xW : Ext wr W := hW ▸ Ext.drew _
      have hx := hx.trans xW
      have hc := xW.cell_some hc
      have hc' := xW.cell_some hc'
      clear hW xW
      have q1 : ∀ w1, Gr none W w1 → w1.cell? _ = _ := fun w1 h => h.cell_some hc (by simp)
      have q2 : ∀ w1, Gr none W w1 → w1.cell? _ = _ := fun w1 h => h.cell_some hc' (by simp)
      have hgr := Gr.refl none W
      iterate 9
        refine held_yes hgr _ rfl (fun w1 hw1 => by unfold Oper.quietAt; go_simp; rfl) ?_
        simp only [Act.put, List.setIfInBounds_toArray, List.set_cons_zero, List.set_cons_succ]
      refine held_nil ?_
      go_wp2_with fail
      exact ⟨⟨j + 1, rfl, by omega, hx⟩, by simp [intOf]; omega⟩
    · have hlt2 : ¬ (j : Int) < l.length := by omega
      go_wp2_with fail
      go_ret
      exact ⟨rfl, hx⟩

/-- What is left behind j texts: the place, and the error. -/
def upS (s : ByteArray) (m : Int) : Nat → Int × Int
  | 0 => (numP s 0 0 1, numE s 0 0 1)
  | j + 1 => (textP s (upS s m j).1 (upS s m j).2 m, textE s (upS s m j).1 (upS s m j).2 m)
/-- The first j texts. -/
def upT (s : ByteArray) (m : Int) : Nat → List ByteArray
  | 0 => []
  | j + 1 => upT s m j ++ [textS s (upS s m j).1 (upS s m j).2 m]
def upN (s : ByteArray) : Nat := (numI s 0 0 1).toNat
def unpackE (s : ByteArray) (m : Int) : Int := doneI s (upS s m (upN s)).1 (upS s m (upN s)).2
def unpackL (s : ByteArray) (m : Int) : List ByteArray := if unpackE s m = 0 then upT s m (upN s) else []

theorem upT_length (s : ByteArray) (m : Int) : ∀ j, (upT s m j).length = j
  | 0 => rfl
  | j + 1 => by simp [upT, upT_length s m j]

theorem text_bad {s : ByteArray} {p b m : Int} (h : ¬ b = 0) : textP s p b m = p ∧ textE s p b m = b := by
  have hf : faultI s p b = b := if_neg (fun x => h x.1)
  have hE : numE s p b 1 = b := by unfold numE; rw [hf, if_pos h]
  have hB : textB s p b m = false := by simp [textB, hE, h]
  refine ⟨if_neg (by simp [hB]), ?_⟩
  unfold textE
  rw [hE, if_pos h]

theorem up_stays {s : ByteArray} {m : Int} {j : Nat} (h : ¬ (upS s m j).2 = 0) : ∀ k, upS s m (j + k) = upS s m j
  | 0 => rfl
  | k + 1 => by
    have ih := up_stays h k
    show (textP s (upS s m (j + k)).1 (upS s m (j + k)).2 m, textE s (upS s m (j + k)).1 (upS s m (j + k)).2 m) = _
    rw [ih, (text_bad h).1, (text_bad h).2]

theorem up_end {s : ByteArray} {m : Int} {j n : Nat} (h : ¬ (upS s m j).2 = 0) (hj : j ≤ n) : upS s m n = upS s m j := by
  obtain ⟨k, rfl⟩ : ∃ k, n = j + k := ⟨n - j, by omega⟩
  exact up_stays h k

theorem upN_le (s : ByteArray) : upN s ≤ 255 ∧ numI s 0 0 1 = upN s := by
  unfold upN
  by_cases h : numE s 0 0 1 = 0
  · obtain ⟨_, _, _, _, h5, _⟩ := num1_ok h
    have := byte_bounds s (0 : Int).toNat
    rw [h5]
    omega
  · rw [(num1_no h).2]
    omega

end Go.Proofs.Ytfkfnhehbhebeaa
