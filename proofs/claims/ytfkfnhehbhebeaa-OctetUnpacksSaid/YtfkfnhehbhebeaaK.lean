/- Texts are packed. -/
import Derived.Test.YtfkfnhehbhebeaaJ
namespace Go.Proofs.Ytfkfnhehbhebeaa
set_option linter.unusedSimpArgs false
set_option linter.unusedVariables false
open Go.RowKit

/-- The cells of a slice of texts. -/
def TextsAt (w : World) (a : Option Addr) (l : List ByteArray) : Prop :=
  l = [] ∨ ∃ g o, a = some ⟨g, o, none⟩ ∧ ∀ j (h : j < l.length), w.cell? ⟨g, o + j, none⟩ = some (.string l[j])

theorem TextsAt.ext {w w' : World} {a : Option Addr} {l : List ByteArray} (h : TextsAt w a l) (x : Ext w w') : TextsAt w' a l := by
  rcases h with h | ⟨g, o, ha, hc⟩
  · exact .inl h
  · exact .inr ⟨g, o, ha, fun j hj => x.cell_some (hc j hj)⟩

theorem TextsAt.get {w : World} {a : Option Addr} {l : List ByteArray} (h : TextsAt w a l) {j : Nat} (hj : j < l.length) : ∃ g o, a = some ⟨g, o, none⟩ ∧ w.cell? ⟨g, o + j, none⟩ = some (.string l[j]) := by
  rcases h with rfl | ⟨g, o, ha, hc⟩
  · simp at hj
  · exact ⟨g, o, ha, hc j hj⟩

def packOk (l : List ByteArray) (m : Int) : Bool := decide (l.length ≤ 255) && l.all fun s => sayE s m == 0
def packE (l : List ByteArray) (m : Int) : Int := if packOk l m = true then 0 else 5
/-- The first j are packed. -/
def packP (l : List ByteArray) (m : Int) (j : Nat) : List UInt8 := UInt8.ofNat l.length :: (l.take j).flatMap fun s => sayL s m
def packL (l : List ByteArray) (m : Int) : List UInt8 := if packOk l m = true then packP l m l.length else []

theorem say_length {s : ByteArray} {m : Int} (h : sayE s m = 0) : (sayL s m).length = 1 + s.size ∧ s.size ≤ 255 := by
  refine ⟨by rw [sayL, if_pos h, List.length_cons, size_list]; omega, ?_⟩
  unfold sayE at h
  split at h
  · simp at h
  · omega

theorem packP_next (l : List ByteArray) (m : Int) (j : Nat) (h : j < l.length) : packP l m (j + 1) = packP l m j ++ sayL l[j] m := by
  unfold packP
  rw [List.take_succ_eq_append_getElem h, List.flatMap_append]
  simp

theorem packP_length (l : List ByteArray) (m : Int) : ∀ (j : Nat), j ≤ l.length → (∀ q (h : q < l.length), q < j → sayE l[q] m = 0) → (packP l m j).length ≤ 1 + 256 * j
  | 0, _, _ => by simp [packP]
  | j + 1, h, he => by
    have ih := packP_length l m j (by omega) (fun q hq hj => he q hq (by omega))
    have := say_length (he j (by omega) (by omega))
    rw [packP_next l m j (by omega), List.length_append]
    omega

theorem pack_no {l : List ByteArray} {m : Int} {j : Nat} (h : j < l.length) (he : ¬ sayE l[j] m = 0) : packOk l m = false := by
  unfold packOk
  rw [Bool.and_eq_false_iff]
  right
  rw [List.all_eq_false]
  exact ⟨l[j], List.getElem_mem h, by simpa using he⟩

theorem pack_yes {l : List ByteArray} {m : Int} (h : l.length ≤ 255) (he : ∀ q (h : q < l.length), sayE l[q] m = 0) : packOk l m = true := by
  unfold packOk
  simp only [h, decide_true, Bool.true_and, List.all_eq_true]
  intro s hs
  obtain ⟨q, hq, rfl⟩ := List.getElem_of_mem hs
  simp [he q hq]

theorem add_eq (g o n : Nat) : (⟨g, o, none⟩ : Addr).add n = ⟨g, o + n, none⟩ := by
  unfold Addr.add; split
  · rename_i h; subst h; rfl
  · rfl

theorem say_five {s : ByteArray} {m : Int} (h : ¬ sayE s m = 0) : sayE s m = 5 := by
  unfold sayE at h ⊢
  split
  · rfl
  · rename_i h'; rw [if_neg h'] at h; exact absurd rfl h

theorem own_bytes_slice {w : World} {base : Nat} {v : Value} {l : List UInt8} (h : w.ownsRow base 5 1 v l.length (bC l)) : ∃ a c, v = .slice a l.length c := by
  obtain ⟨_, h | ⟨g, cap, cur, hv, _⟩⟩ := h
  · obtain ⟨rfl, h0⟩ := h
    exact ⟨none, 0, by rw [h0]⟩
  · exact ⟨_, _, hv⟩

set_option maxRecDepth 100000 in
set_option maxHeartbeats 8000000 in
theorem pack_any (w : World) (a : Option Addr) (c : Nat) (l : List ByteArray) (m : Int) (hA : Hid (TextsAt w a l)) (hs : ∀ s ∈ l, s.size ≤ 1000000) :
    Calls Try.prog 28 #[.slice a l.length c, .int .i64 m] w fun e w' => ∃ v, e = .returned (.tuple #[v, .int .i64 (packE l m)]) ∧ BytesAt w' v (packL l m) ∧ Ext w w' := by
  by_cases hl : (255 : Int) < l.length
  case' pos =>
    have hB : packOk l m = false := by unfold packOk; rw [show decide (l.length ≤ 255) = false by simp; omega]; rfl
    have HE := Lib.hid (show packE l m = 5 from if_neg (by simp [hB]))
    have HL := Lib.hid (show packL l m = [] from if_neg (by simp [hB]))
    go_enter Try.func28, Try.ntmps28
    go_wp2_with fail
    refine bodyPost_ret (v := .tuple #[.slice none 0 0, .int .i64 5]) (by simp [results, Try.results28, go_sem]) rfl ⟨_, by rw [HE.out], .inl ⟨HL.out, rfl⟩, Ext.refl _⟩
  case' neg =>
    obtain ⟨i0, hi, hz0, hz1, hz2⟩ := info_parts info5
    have hw8 : IntKind.u8.wrap (l.length : Int) = l.length := by rw [IntKind.wrap_u8]; omega
    go_enter Try.func28, Try.ntmps28
    go_wp2_with fail
    have hl2 : l.length ≤ 255 := by omega
    have hown0 : (w.alloc (.cells #[.int .u8 l.length] 5)).ownsRow w.heap.size 5 1 (.slice (some ⟨w.heap.size, 0, none⟩) 1 1) (packP l m 0).length (bC (packP l m 0)) := by
      have h := World.ownsRow_lit (base := w.heap.size) (size := 1) (e := 5) w #[.int .u8 (l.length : Int)] 1 (Nat.le_refl _) (by decide) rfl
      have e2 : bC (packP l m 0) = [Value.int .u8 l.length] := by
        simp [packP, bC]
        omega
      rw [e2]
      exact h
    have x0 : Ext w (w.alloc (.cells #[.int .u8 l.length] 5)) := Ext.alloc _ _
    generalize w.alloc (.cells #[.int .u8 l.length] 5) = w0 at *
    clear hw8 hl
    go_loopw [6, 8, 9, 10, 20] (fun o _ _ _ i wr => ∃ j : Nat, i = .int .i64 j ∧ j ≤ l.length ∧ (∀ q (h : q < l.length), q < j → sayE l[q] m = 0) ∧ wr.ownsRow w.heap.size 5 1 o (packP l m j).length (bC (packP l m j)) ∧ Ext w wr) (fun _ _ _ _ i _ => l.length - (intOf i).toNat)
    case atStart => exact ⟨0, rfl, by omega, fun q h h0 => by omega, hown0, x0⟩
    case round =>
      clear hown0 x0
      obtain ⟨j, rfl, hj, he, hown, hx⟩ := hrel
      by_cases hlt : j < l.length
      · have hlt2 : (j : Int) < l.length := by omega
        obtain ⟨g, o, rfl, hc⟩ := (hA.out.ext hx).get hlt
        have hsz := hs l[j] (List.getElem_mem hlt)
        have hlen := packP_length l m j hj he
        have hnext := packP_next l m j hlt
        have HJ := Lib.hid (show ¬ sayE l[j] m = 0 → packOk l m = false from pack_no hlt)
        have HX := Lib.hid (show sayE l[j] m = 0 → ∀ q (h : q < l.length), q < j + 1 → sayE l[q] m = 0 from fun h0 q h hq => by
          by_cases hqj : q < j
          · exact he q h hqj
          · obtain rfl : q = j := by omega
            exact h0)
        have HN := Lib.hid hnext
        obtain ⟨s, hsv⟩ : ∃ s, s = l[j] := ⟨_, rfl⟩
        rw [← hsv] at hc hsz
        have HS := Lib.hid hsv
        clear hnext he hsv
        obtain ⟨av, cv, rfl⟩ := own_bytes_slice hown
        go_wp2_with fail
        refine (say_any _ s m hsz).mono ?_
        rintro e w2 ⟨vb, rfl, hb, x2⟩
        have hown2 := hown.kept (x2.gr none) (Decidable.em _)
        have hx2 := hx.trans x2
        clear hown hx hc
        by_cases h0 : sayE s m = 0
        · obtain ⟨h1, h2⟩ := say_length h0
          rcases hb with ⟨hb, _⟩ | ⟨gb, cb, rfl, hb⟩
          · rw [hb] at h1; simp at h1; omega
          · have HB := Lib.hid hb
            have H0 := Lib.hid h0
            rw [h0]
            clear h0
            rw [h1]
            have H1 := Lib.hid (And.intro h1 h2)
            clear h1 h2
            go_wp2_with (at_builtin; refine wpList_append_own _ rfl _ _ 46 rfl w.heap.size 5 i0 (.int .u8 0) 1 1 Try.underlying46 hi hz0 hz1 hz2 rfl (by decide) _ _ _ rfl hown2 ⟨gb, 0, none⟩ (1 + s.size) cb (bC (sayL s m)) rfl ?c0 ?c1 ?c2 ?c3 ?c4 ?c5 ?_)
            case c0 => rw [bC_length, H1.out.1]; omega
            case c1 =>
              intro q u hq
              have hq' : q < (sayL s m).length := by have := (List.getElem?_eq_some_iff.1 hq).1; rwa [bC_length] at this
              have := HB.out q hq'
              simp [bC, hq'] at hq
              rw [← hq, add_eq, Nat.zero_add]
              exact this
            case c2 => intro u hu; simp [bC] at hu; obtain ⟨b, _, rfl⟩ := hu; rfl
            case c3 => have := H1.out.2; unfold maxLen; omega
            case c4 => have := H1.out.2; omega
            case c5 => exact hx2.size
            intro v' w3 hown3 hgrow _
            have x3 : Ext w w3 := Below.grown hx2 hgrow hx2.size (fun q hq => (hown2.lt q hq).1)
            have e1 : packP l m (j + 1) = packP l m j ++ sayL s m := by rw [HN.out, HS.out]
            have hown4 : w3.ownsRow w.heap.size 5 1 v' (packP l m (j + 1)).length (bC (packP l m (j + 1))) := by
              rw [e1, List.length_append, bC_append, H1.out.1]
              exact hown3
            have hall := HX.out (by rw [← HS.out]; exact H0.out)
            clear hown3 hgrow hown2 hx2 e1
            go_wp2_with fail
            exact ⟨⟨j + 1, rfl, by omega, hall, hown4, x3⟩, by simp [intOf]; omega⟩
        · have h5 := say_five h0
          have hB := HJ.out (by rw [← HS.out]; exact h0)
          have HE := Lib.hid (show packE l m = 5 from if_neg (by simp [hB]))
          have HL := Lib.hid (show packL l m = [] from if_neg (by simp [hB]))
          rw [h5]
          clear h0 h5 hB hown2 hb
          go_wp2_with fail
          refine bodyPost_ret (v := .tuple #[.slice none 0 0, .int .i64 5]) (by simp [results, Try.results28, go_sem]) rfl ⟨_, by rw [HE.out], .inl ⟨HL.out, rfl⟩, hx2⟩
      · have hlt2 : ¬ (j : Int) < l.length := by omega
        have hje : j = l.length := by omega
        subst hje
        have hB := pack_yes hl2 (fun q h => he q h h)
        have HE := Lib.hid (show packE l m = 0 from if_pos hB)
        have HL := Lib.hid (show packL l m = packP l m l.length from if_pos hB)
        have hb := own_bytes hown
        obtain ⟨av, cv, rfl⟩ := own_bytes_slice hown
        clear hown he hB
        have HB := Lib.hid hb
        clear hb
        go_wp2_with fail
        refine bodyPost_ret (v := .tuple #[.slice av (packP l m l.length).length cv, .int .i64 0]) (by simp [results, Try.results28, go_sem]) rfl ⟨_, by rw [HE.out], by rw [HL.out]; exact HB.out, hx⟩

end Go.Proofs.Ytfkfnhehbhebeaa
