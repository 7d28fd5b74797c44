/- What states are called, and all of them. -/
import Derived.Test.YtgjfihpmbchhiaaB
import Derived.Laws.Concat
import Derived.Laws.OwnMore
import Derived.OwnWalk
namespace Go.Proofs.Ytgjfihpmbchhiaa
set_option linter.unusedSimpArgs false
set_option linter.unusedVariables false
open Go.RowKit

def nameN : Nat → List UInt8
  | 0 => [110, 111, 110, 101]
  | 1 => [116, 111]
  | 2 => [102, 114, 111, 109]
  | 3 => [98, 111, 116, 104]
  | 4 => [110, 111, 110, 101, 43, 97, 115, 107]
  | 5 => []
  | 6 => [102, 114, 111, 109, 43, 97, 115, 107]
  | 7 => []
  | 8 => [110, 111, 110, 101, 43, 119, 97, 105, 116]
  | 9 => [116, 111, 43, 119, 97, 105, 116]
  | 10 => []
  | 11 => []
  | 12 => [110, 111, 110, 101, 43, 97, 115, 107, 43, 119, 97, 105, 116]
  | 13 => []
  | 14 => []
  | 15 => []
  | _ => []
def nameB (s : Int) : ByteArray := ⟨(nameN s.toNat).toArray⟩

set_option maxHeartbeats 20000000 in
theorem name_any (w : World) (s : Int) (h0 : 0 ≤ s) (h1 : s ≤ 15) : Calls Try.prog 10 #[.int .i64 s] w fun e w' => e = .returned (.string (nameB s)) ∧ w' = w := by
  rcases sixteen h0 h1 with rfl | rfl | rfl | rfl | rfl | rfl | rfl | rfl | rfl | rfl | rfl | rfl | rfl | rfl | rfl | rfl
  all_goals
    clear h0 h1
    go_enter Try.func10, Try.ntmps10
    go_wp2_with fail
    refine (check_any _ _ (by decide) (by decide)).mono ?_
    rintro e w1 ⟨rfl, rfl⟩
    go_wp2_with fail
    refine bodyPost_ret (v := .string (nameB _)) ?_ rfl ⟨rfl, rfl⟩
    first | rfl | (simp [results, Try.results10, go_sem] <;> first | rfl | decide | kernel_rfl)

theorem agree_any (w : World) (a b : Int) (h0 : 0 ≤ a) (h1 : a ≤ 15) (h2 : 0 ≤ b) (h3 : b ≤ 15) : Calls Try.prog 8 #[.int .i64 a, .int .i64 b] w fun e w' => e = .returned (.bool (decide (chk a = 0) && (decide (chk b = 0) && decide (mirI a = b)))) ∧ w' = w := by
  by_cases ha : chk a = 0
  case' neg =>
    have hn : (chk a == 0) = false := by simpa using ha
    rw [show decide (chk a = 0) = false by simpa using ha]
    clear ha
    go_enter Try.func8, Try.ntmps8
    go_wp2_with fail
    refine (check_any _ a h0 h1).mono ?_
    rintro e w1 ⟨rfl, rfl⟩
    go_wp2_with fail
    go_ret
    exact ⟨rfl, rfl⟩
  case' pos =>
    have HA := Lib.hid ha
    rw [show decide (chk a = 0) = true by simpa using ha]
    clear ha
    by_cases hb : chk b = 0
    case' neg =>
      have hn : (chk b == 0) = false := by simpa using hb
      rw [show decide (chk b = 0) = false by simpa using hb]
      clear hb
      go_enter Try.func8, Try.ntmps8
      go_wp2_with fail
      refine (check_any _ a h0 h1).mono ?_
      rintro e w1 ⟨rfl, rfl⟩
      rw [HA.out]
      go_wp2_with fail
      refine (check_any _ b h2 h3).mono ?_
      rintro e w2 ⟨rfl, rfl⟩
      go_wp2_with fail
      go_ret
      exact ⟨rfl, rfl⟩
    case' pos =>
      have HB := Lib.hid hb
      rw [show decide (chk b = 0) = true by simpa using hb]
      clear hb
      by_cases hm : mirI a = b
      case' pos =>
        have hq : (mirI a == b) = true := by simpa using hm
        rw [show decide (mirI a = b) = true by simpa using hm]
      case' neg =>
        have hq : (mirI a == b) = false := by simpa using hm
        rw [show decide (mirI a = b) = false by simpa using hm]
      all_goals
        clear hm
        go_enter Try.func8, Try.ntmps8
        go_wp2_with fail
        refine (check_any _ a h0 h1).mono ?_
        rintro e w1 ⟨rfl, rfl⟩
        rw [HA.out]
        go_wp2_with fail
        refine (check_any _ b h2 h3).mono ?_
        rintro e w2 ⟨rfl, rfl⟩
        rw [HB.out]
        go_wp2_with fail
        refine (mirror_any _ a h0 h1).mono ?_
        rintro e w3 ⟨rfl, rfl⟩
        go_wp2_with fail
        go_ret
        exact ⟨rfl, rfl⟩

/-- The cells of a slice of numbers. -/
def IntsAt (w : World) (a : Option Addr) (l : List Int) : Prop :=
  l = [] ∨ ∃ g o, a = some ⟨g, o, none⟩ ∧ ∀ j (h : j < l.length), w.cell? ⟨g, o + j, none⟩ = some (.int .i64 l[j])

theorem IntsAt.ext {w w' : World} {a : Option Addr} {l : List Int} (h : IntsAt w a l) (x : Ext w w') : IntsAt w' a l := by
  rcases h with h | ⟨g, o, ha, hc⟩
  · exact .inl h
  · exact .inr ⟨g, o, ha, fun j hj => x.cell_some (hc j hj)⟩

theorem IntsAt.get {w : World} {a : Option Addr} {l : List Int} (h : IntsAt w a l) {j : Nat} (hj : j < l.length) : ∃ g o, a = some ⟨g, o, none⟩ ∧ w.cell? ⟨g, o + j, none⟩ = some (.int .i64 l[j]) := by
  rcases h with rfl | ⟨g, o, ha, hc⟩
  · simp at hj
  · exact ⟨g, o, ha, hc j hj⟩

set_option maxRecDepth 100000 in
set_option maxHeartbeats 8000000 in
theorem same_any (w : World) (a b : Option Addr) (c d : Nat) (l : List Int) (hA : Hid (IntsAt w a l)) (hB : Hid (IntsAt w b l)) (hl : l.length ≤ 1000000) :
    Calls Try.prog 13 #[.slice a l.length c, .slice b l.length d] w fun e w' => e = .returned (.bool true) ∧ Ext w w' := by
  go_enter Try.func13, Try.ntmps13
  go_wp2_with fail
  go_loopw [5] (fun i wr => ∃ j : Nat, i = .int .i64 j ∧ j ≤ l.length ∧ Ext w wr) (fun i _ => l.length - (intOf i).toNat)
  case atStart => exact ⟨0, rfl, by omega, Ext.refl w⟩
  case round =>
    obtain ⟨j, rfl, hj, hx⟩ := hrel
    by_cases hlt : j < l.length
    · have hlt2 : (j : Int) < l.length := by omega
      obtain ⟨g, o, rfl, hc⟩ := (hA.out.ext hx).get hlt
      obtain ⟨g', o', rfl, hc'⟩ := (hB.out.ext hx).get hlt
      generalize l[j] = s at *
      go_wp2_with fail
      refine region_held none [(0, true), (1, true), (2, true), (3, true), (4, true), (5, true), (6, true), (7, true), (8, true)] [] (by kernel_rfl) (by kernel_rfl) (fun _ _ d _ _ h => by cases d <;> exact h) (fun W hW => ?_)
      simp only [pick, pickF, List.getElem?_cons_zero, List.getElem?_cons_succ]
      have xW : Ext wr W := hW ▸ Ext.drew _
      have hx := hx.trans xW
      have hc := xW.cell_some hc
      have hc' := xW.cell_some hc'
      clear hW xW
      have q1 : ∀ w1, Gr none W w1 → w1.cell? _ = _ := fun w1 h => h.cell_some hc (by simp)
      have q2 : ∀ w1, Gr none W w1 → w1.cell? _ = _ := fun w1 h => h.cell_some hc' (by simp)
      have hgr := Gr.refl none W
      iterate 9
        refine held_yes hgr _ rfl (fun w1 hw1 => by unfold Oper.quietAt; go_simp; rfl) ?_
        simp only [Act.put, List.setIfInBounds_toArray, List.set_cons_zero, List.set_cons_succ]
      refine held_nil ?_
      go_wp2_with fail
      exact ⟨⟨j + 1, rfl, by omega, hx⟩, by simp [intOf]; omega⟩
    · have hlt2 : ¬ (j : Int) < l.length := by omega
      go_wp2_with fail
      go_ret
      exact ⟨rfl, hx⟩

theorem info3 : (Try.prog.info? 3).map (fun i => (i.zero, i.size, i.bytes)) = some (some (.int .i64 0), 1, 8) := by kernel_rfl

def iC (l : List Int) : List Value := l.map (Value.int .i64)
theorem iC_append (a b : List Int) : iC (a ++ b) = iC a ++ iC b := by simp [iC]

theorem own_ints {w : World} {base : Nat} {v : Value} {l : List Int} (h : w.ownsRow base 3 1 v l.length (iC l)) : ∃ a c, v = .slice a l.length c ∧ IntsAt w a l := by
  have h' := h
  obtain ⟨_, h | ⟨g, cap, cur, hv, _, hb, hn, hm, hs, ht⟩⟩ := h
  · obtain ⟨rfl, h0⟩ := h
    exact ⟨none, 0, by rw [h0], .inl (List.eq_nil_of_length_eq_zero h0)⟩
  · refine ⟨_, cap, hv, .inr ⟨g, 0, rfl, fun j hj => ?_⟩⟩
    rw [Nat.zero_add, World.ownsRow.cellAt (hv ▸ h') j (by omega)]
    simp [iC, hj]

theorem new_cell (W : World) (x : Value) (t : TypeId) (g : Nat) (h : W.heap.size = g) : (W.alloc (.cells #[x] t)).cell? ⟨g, 0, none⟩ = some x := by
  subst h
  simp

/-- The first j numbers that are states. -/
def stL : Nat → List Int
  | 0 => []
  | j + 1 => if chk j = 0 then stL j ++ [(j : Int)] else stL j
def stAll : List Int := [0, 1, 2, 3, 4, 6, 8, 9, 12]
theorem stL_all : stL 16 = stAll := by rfl
theorem stL_len : ∀ j, (stL j).length ≤ j
  | 0 => by simp [stL]
  | j + 1 => by
    have := stL_len j
    unfold stL
    split
    · simp; omega
    · omega

set_option maxRecDepth 100000 in
set_option maxHeartbeats 8000000 in
theorem states_any (w : World) : Calls Try.prog 14 #[] w fun e w' => ∃ a c, e = .returned (.slice a stAll.length c) ∧ IntsAt w' a stAll ∧ Ext w w' := by
  obtain ⟨i0, hi, hz0, hz1, hz2⟩ := info_parts info3
  go_enter Try.func14, Try.ntmps14
  go_wp2_with fail
  go_loopw [1, 3] (fun o i wr => ∃ j : Nat, i = .int .i64 j ∧ j ≤ 16 ∧ wr.ownsRow w.heap.size 3 1 o (stL j).length (iC (stL j)) ∧ Ext w wr) (fun _ i _ => 16 - (intOf i).toNat)
  case atStart => exact ⟨0, rfl, by omega, World.ownsRow_nil _ _ _ _, Ext.refl w⟩
  case round =>
    obtain ⟨j, rfl, hj, hown, hx⟩ := hrel
    by_cases hlt : j < 16
    · have hlt2 : (j : Int) < 16 := by omega
      have hlen := stL_len j
      obtain ⟨av, cv, rfl, hat⟩ := own_ints hown
      clear hat
      by_cases hc : chk j = 0
      · have HS := Lib.hid (show stL (j + 1) = stL j ++ [(j : Int)] from if_pos hc)
        have HC := Lib.hid hc
        clear hc
        go_wp2_with fail
        refine (check_any _ j (by omega) (by omega)).mono ?_
        rintro e w2 ⟨rfl, rfl⟩
        rw [HC.out]
        go_wp2_with (at_builtin; refine wpList_append_own _ rfl _ _ 38 rfl w.heap.size 3 i0 (.int .i64 0) 1 8 Try.underlying38 hi hz0 hz1 hz2 rfl (by decide) _ _ _ rfl (hown.alloc _) ⟨w2.heap.size, 0, none⟩ 1 1 [.int .i64 (j : Int)] rfl rfl ?c1 ?c2 ?c3 ?c4 ?c5 ?_)
        case c1 =>
          intro q u hq
          match q, hq with
          | 0, hq => simp at hq; subst hq; exact new_cell _ _ _ _ rfl
        case c2 => intro u hu; simp at hu; subst hu; rfl
        case c3 => unfold maxLen; omega
        case c4 => omega
        case c5 => have := hx.size; simp; omega
        intro v' w5 hown5 hgrow _
        have x5 : Ext w w5 := Below.grown (hx.al _) hgrow (by have := hx.size; simp; omega) (fun q hq => (hown.lt q hq).1)
        have hown6 : w5.ownsRow w.heap.size 3 1 v' (stL (j + 1)).length (iC (stL (j + 1))) := by
          rw [HS.out, List.length_append, iC_append]
          exact hown5
        clear hown5 hgrow hown
        go_wp2_with fail
        exact ⟨⟨j + 1, rfl, by omega, hown6, x5⟩, by simp [intOf]; omega⟩
      · have HS := Lib.hid (show stL (j + 1) = stL j from if_neg hc)
        have hcn : (chk j == 0) = false := by simpa using hc
        have HO := Lib.hid hown
        clear hc hown
        go_wp2_with fail
        refine (check_any _ j (by omega) (by omega)).mono ?_
        rintro e w2 ⟨rfl, rfl⟩
        go_wp2_with fail
        exact ⟨⟨j + 1, rfl, by omega, by rw [HS.out]; exact HO.out, hx⟩, by simp [intOf]; omega⟩
    · have hlt2 : ¬ (j : Int) < 16 := by omega
      obtain rfl : j = 16 := by omega
      rw [stL_all] at hown
      obtain ⟨av, cv, rfl, hat⟩ := own_ints hown
      have HA := Lib.hid hat
      clear hown hat
      go_wp2_with fail
      go_ret
      exact ⟨av, ⟨cv, rfl⟩, HA.out, hx⟩

end Go.Proofs.Ytgjfihpmbchhiaa
