/- A state's sum, and whether it may be. -/
import Derived.Test.YtnldfglgdchinaaA
namespace Go.Proofs.Ytnldfglgdchinaa
set_option linter.unusedSimpArgs false
set_option linter.unusedVariables false
open Go.RowKit

/-- A state: its limit, and how many of each kind are charged. -/
structure S where
  (c a0 a1 a2 a3 a4 a5 : Int)

abbrev stV (c a0 a1 a2 a3 a4 a5 : Int) : Value := .agg #[.int .i64 c, .int .i64 a0, .int .i64 a1, .int .i64 a2, .int .i64 a3, .int .i64 a4, .int .i64 a5]
abbrev S.val (s : S) : Value := stV s.c s.a0 s.a1 s.a2 s.a3 s.a4 s.a5

/-- May there be n of a kind? -/
def okN (n : Int) : Prop := 0 ≤ n ∧ n ≤ 4096
def S.okMany (s : S) : Prop := okN s.a0 ∧ okN s.a1 ∧ okN s.a2 ∧ okN s.a3 ∧ okN s.a4 ∧ okN s.a5
instance (n : Int) : Decidable (okN n) := inferInstanceAs (Decidable (_ ∧ _))
instance (s : S) : Decidable s.okMany := inferInstanceAs (Decidable (_ ∧ _))

def psum (a0 a1 a2 a3 a4 a5 : Int) (k : Nat) : Int :=
  match k with
  | 0 => 0
  | 1 => a0 * 8
  | 2 => a0 * 8 + a1 * 6
  | 3 => a0 * 8 + a1 * 6 + a2 * 4
  | 4 => a0 * 8 + a1 * 6 + a2 * 4 + a3 * 3
  | 5 => a0 * 8 + a1 * 6 + a2 * 4 + a3 * 3 + a4 * 2
  | _ => a0 * 8 + a1 * 6 + a2 * 4 + a3 * 3 + a4 * 2 + a5 * 1

/-- What is charged. -/
def S.sum (s : S) : Int := psum s.a0 s.a1 s.a2 s.a3 s.a4 s.a5 6

theorem ok_bound {n : Int} (h : okN n) : 0 ≤ n ∧ n ≤ 4096 := h

set_option maxRecDepth 100000 in
set_option maxHeartbeats 1000000 in
theorem sum_any (w : World) (c a0 a1 a2 a3 a4 a5 : Int) (h0 : okN a0) (h1 : okN a1) (h2 : okN a2) (h3 : okN a3) (h4 : okN a4) (h5 : okN a5) :
    Calls Try.prog 30 #[stV c a0 a1 a2 a3 a4 a5] w fun e w' => e = .returned (.int .i64 (psum a0 a1 a2 a3 a4 a5 6)) ∧ Ext w w' := by
  have h0 := ok_bound h0
  have h1 := ok_bound h1
  have h2 := ok_bound h2
  have h3 := ok_bound h3
  have h4 := ok_bound h4
  have h5 := ok_bound h5
  go_enter Try.func30, Try.ntmps30
  go_wp2_with fail
  obtain ⟨w0, hw0⟩ : ∃ w0, w0 = w.alloc (.cells #[.int .i64 c, .int .i64 a0, .int .i64 a1, .int .i64 a2, .int .i64 a3, .int .i64 a4, .int .i64 a5] 26) := ⟨_, rfl⟩
  rw [← hw0]
  have x0 : Ext w w0 := hw0 ▸ Ext.alloc _ _
  have c1 : w0.cell? ⟨w.heap.size, 1, none⟩ = some (.int .i64 a0) := by rw [hw0]; go_simp
  have c2 : w0.cell? ⟨w.heap.size, 2, none⟩ = some (.int .i64 a1) := by rw [hw0]; go_simp
  have c3 : w0.cell? ⟨w.heap.size, 3, none⟩ = some (.int .i64 a2) := by rw [hw0]; go_simp
  have c4 : w0.cell? ⟨w.heap.size, 4, none⟩ = some (.int .i64 a3) := by rw [hw0]; go_simp
  have c5 : w0.cell? ⟨w.heap.size, 5, none⟩ = some (.int .i64 a4) := by rw [hw0]; go_simp
  have c6 : w0.cell? ⟨w.heap.size, 6, none⟩ = some (.int .i64 a5) := by rw [hw0]; go_simp
  clear hw0
  refine (costs_any _).mono ?_
  rintro e w2 ⟨rfl, x2⟩
  have x0 := x0.trans x2
  have c1 := x2.cell_some c1
  have c2 := x2.cell_some c2
  have c3 := x2.cell_some c3
  have c4 := x2.cell_some c4
  have c5 := x2.cell_some c5
  have c6 := x2.cell_some c6
  clear x2
  go_wp2_with fail
  go_loopw [3, 7] (fun n i wr => ∃ k : Nat, n = .int .i64 (psum a0 a1 a2 a3 a4 a5 k) ∧ i = .int .i64 k ∧ k ≤ 6 ∧ wr = w2) (fun _ i _ => 6 - (intOf i).toNat)
  case atStart => exact ⟨0, rfl, rfl, by omega, rfl⟩
  case round =>
    obtain ⟨k, rfl, rfl, hk, rfl⟩ := hrel
    rcases (by omega : k = 0 ∨ k = 1 ∨ k = 2 ∨ k = 3 ∨ k = 4 ∨ k = 5 ∨ k = 6) with rfl | rfl | rfl | rfl | rfl | rfl | rfl
    all_goals go_wp2_with fail
    · refine ⟨⟨1, ?_, rfl, by omega, trivial⟩, by simp [intOf]⟩
      refine congrArg (Value.int .i64) ?_
      simp only [psum]
      rw [IntWalk.wrap64_in _ (by omega)]
      try omega
    · refine ⟨⟨2, ?_, rfl, by omega, trivial⟩, by simp [intOf]⟩
      refine congrArg (Value.int .i64) ?_
      simp only [psum]
      rw [IntWalk.wrap64_in _ (by omega)]
      try omega
    · refine ⟨⟨3, ?_, rfl, by omega, trivial⟩, by simp [intOf]⟩
      refine congrArg (Value.int .i64) ?_
      simp only [psum]
      rw [IntWalk.wrap64_in _ (by omega)]
      try omega
    · refine ⟨⟨4, ?_, rfl, by omega, trivial⟩, by simp [intOf]⟩
      refine congrArg (Value.int .i64) ?_
      simp only [psum]
      rw [IntWalk.wrap64_in _ (by omega)]
      try omega
    · refine ⟨⟨5, ?_, rfl, by omega, trivial⟩, by simp [intOf]⟩
      refine congrArg (Value.int .i64) ?_
      simp only [psum]
      rw [IntWalk.wrap64_in _ (by omega)]
      try omega
    · refine ⟨⟨6, ?_, rfl, by omega, trivial⟩, by simp [intOf]⟩
      refine congrArg (Value.int .i64) ?_
      simp only [psum]
      rw [IntWalk.wrap64_in _ (by omega)]
      try omega
    · go_ret
      exact ⟨rfl, x0⟩

def S.okCap (s : S) : Prop := 1 ≤ s.c ∧ s.c ≤ 4096
instance (s : S) : Decidable s.okCap := inferInstanceAs (Decidable (_ ∧ _))

/-- May it be? -/
def S.check (s : S) : Int := if s.okMany ∧ s.okCap then (if s.sum > s.c then 7 else 0) else 8

theorem inB_ok {n : Int} (h : okN n) : inB n 0 4096 = true := by obtain ⟨h1, h2⟩ := h; simp [inB, h1, h2]
theorem inB_no {n : Int} (h : ¬ okN n) : inB n 0 4096 = false := by unfold okN at h; simp [inB]; omega

theorem check_many (s : S) (h : ¬ s.okMany) : s.check = 8 := by unfold S.check; rw [if_neg (fun x => h x.1)]
theorem check_cap (s : S) (h : ¬ s.okCap) : s.check = 8 := by unfold S.check; rw [if_neg (fun x => h x.2)]

theorem check_full (s : S) (h1 : s.okMany) (h2 : s.okCap) (h : s.c < s.sum) : s.check = 7 := by unfold S.check; rw [if_pos ⟨h1, h2⟩, if_pos h]
theorem check_ok (s : S) (h1 : s.okMany) (h2 : s.okCap) (h : s.sum ≤ s.c) : s.check = 0 := by unfold S.check; rw [if_pos ⟨h1, h2⟩, if_neg (Int.not_lt.2 h)]
theorem check_zero (s : S) (h : s.check = 0) : s.okMany ∧ s.okCap ∧ s.sum ≤ s.c := by
  unfold S.check at h
  split at h
  · rename_i h1
    split at h
    · simp at h
    · exact ⟨h1.1, h1.2, by omega⟩
  · simp at h

/-- The k-th of six. -/
def nth (a0 a1 a2 a3 a4 a5 : Int) (k : Nat) : Int :=
  match k with
  | 0 => a0
  | 1 => a1
  | 2 => a2
  | 3 => a3
  | 4 => a4
  | _ => a5

set_option maxRecDepth 100000 in
set_option maxHeartbeats 2000000 in
theorem check_any (w : World) (c a0 a1 a2 a3 a4 a5 : Int) :
    Calls Try.prog 18 #[stV c a0 a1 a2 a3 a4 a5] w fun e w' => e = .returned (.int .i64 (S.check ⟨c, a0, a1, a2, a3, a4, a5⟩)) ∧ Ext w w' := by
  go_enter Try.func18, Try.ntmps18
  go_wp2_with fail
  obtain ⟨w0, hw0⟩ : ∃ w0, w0 = w.alloc (.cells #[.int .i64 c, .int .i64 a0, .int .i64 a1, .int .i64 a2, .int .i64 a3, .int .i64 a4, .int .i64 a5] 26) := ⟨_, rfl⟩
  rw [← hw0]
  have x0 : Ext w w0 := hw0 ▸ Ext.alloc _ _
  have c0 : w0.cell? ⟨w.heap.size, 0, none⟩ = some (.int .i64 c) := by rw [hw0]; go_simp
  have c1 : w0.cell? ⟨w.heap.size, 1, none⟩ = some (.int .i64 a0) := by rw [hw0]; go_simp
  have c2 : w0.cell? ⟨w.heap.size, 2, none⟩ = some (.int .i64 a1) := by rw [hw0]; go_simp
  have c3 : w0.cell? ⟨w.heap.size, 3, none⟩ = some (.int .i64 a2) := by rw [hw0]; go_simp
  have c4 : w0.cell? ⟨w.heap.size, 4, none⟩ = some (.int .i64 a3) := by rw [hw0]; go_simp
  have c5 : w0.cell? ⟨w.heap.size, 5, none⟩ = some (.int .i64 a4) := by rw [hw0]; go_simp
  have c6 : w0.cell? ⟨w.heap.size, 6, none⟩ = some (.int .i64 a5) := by rw [hw0]; go_simp
  clear hw0
  go_loopw [7] (fun i wr => ∃ k : Nat, i = .int .i64 k ∧ k ≤ 6 ∧ (∀ j, j < k → okN (nth a0 a1 a2 a3 a4 a5 j)) ∧ wr = w0) (fun i _ => 6 - (intOf i).toNat)
  case atStart => exact ⟨0, rfl, by omega, fun j hj => by omega, rfl⟩
  case round =>
    obtain ⟨k, rfl, hk, hj, rfl⟩ := hrel
    rcases (by omega : k = 0 ∨ k = 1 ∨ k = 2 ∨ k = 3 ∨ k = 4 ∨ k = 5 ∨ k = 6) with rfl | rfl | rfl | rfl | rfl | rfl | rfl
    all_goals go_wp2_with fail
    · by_cases hn : okN a0
      · refine (in_any _ _ _ _).mono ?_
        rintro e w1 ⟨rfl, rfl⟩
        rw [inB_ok hn]
        go_wp2_with fail
        refine ⟨⟨1, rfl, by omega, fun j hj' => ?_, trivial⟩, by simp [intOf]⟩
        rcases (by omega : j < 0 ∨ j = 0) with h | rfl
        · exact hj j h
        · exact hn
      · refine (in_any _ _ _ _).mono ?_
        rintro e w1 ⟨rfl, rfl⟩
        rw [inB_no hn]
        go_wp2_with fail
        go_ret
        exact ⟨by rw [check_many _ (fun h => hn h.1)]; rfl, x0⟩
    · by_cases hn : okN a1
      · refine (in_any _ _ _ _).mono ?_
        rintro e w1 ⟨rfl, rfl⟩
        rw [inB_ok hn]
        go_wp2_with fail
        refine ⟨⟨2, rfl, by omega, fun j hj' => ?_, trivial⟩, by simp [intOf]⟩
        rcases (by omega : j < 1 ∨ j = 1) with h | rfl
        · exact hj j h
        · exact hn
      · refine (in_any _ _ _ _).mono ?_
        rintro e w1 ⟨rfl, rfl⟩
        rw [inB_no hn]
        go_wp2_with fail
        go_ret
        exact ⟨by rw [check_many _ (fun h => hn h.2.1)]; rfl, x0⟩
    · by_cases hn : okN a2
      · refine (in_any _ _ _ _).mono ?_
        rintro e w1 ⟨rfl, rfl⟩
        rw [inB_ok hn]
        go_wp2_with fail
        refine ⟨⟨3, rfl, by omega, fun j hj' => ?_, trivial⟩, by simp [intOf]⟩
        rcases (by omega : j < 2 ∨ j = 2) with h | rfl
        · exact hj j h
        · exact hn
      · refine (in_any _ _ _ _).mono ?_
        rintro e w1 ⟨rfl, rfl⟩
        rw [inB_no hn]
        go_wp2_with fail
        go_ret
        exact ⟨by rw [check_many _ (fun h => hn h.2.2.1)]; rfl, x0⟩
    · by_cases hn : okN a3
      · refine (in_any _ _ _ _).mono ?_
        rintro e w1 ⟨rfl, rfl⟩
        rw [inB_ok hn]
        go_wp2_with fail
        refine ⟨⟨4, rfl, by omega, fun j hj' => ?_, trivial⟩, by simp [intOf]⟩
        rcases (by omega : j < 3 ∨ j = 3) with h | rfl
        · exact hj j h
        · exact hn
      · refine (in_any _ _ _ _).mono ?_
        rintro e w1 ⟨rfl, rfl⟩
        rw [inB_no hn]
        go_wp2_with fail
        go_ret
        exact ⟨by rw [check_many _ (fun h => hn h.2.2.2.1)]; rfl, x0⟩
    · by_cases hn : okN a4
      · refine (in_any _ _ _ _).mono ?_
        rintro e w1 ⟨rfl, rfl⟩
        rw [inB_ok hn]
        go_wp2_with fail
        refine ⟨⟨5, rfl, by omega, fun j hj' => ?_, trivial⟩, by simp [intOf]⟩
        rcases (by omega : j < 4 ∨ j = 4) with h | rfl
        · exact hj j h
        · exact hn
      · refine (in_any _ _ _ _).mono ?_
        rintro e w1 ⟨rfl, rfl⟩
        rw [inB_no hn]
        go_wp2_with fail
        go_ret
        exact ⟨by rw [check_many _ (fun h => hn h.2.2.2.2.1)]; rfl, x0⟩
    · by_cases hn : okN a5
      · refine (in_any _ _ _ _).mono ?_
        rintro e w1 ⟨rfl, rfl⟩
        rw [inB_ok hn]
        go_wp2_with fail
        refine ⟨⟨6, rfl, by omega, fun j hj' => ?_, trivial⟩, by simp [intOf]⟩
        rcases (by omega : j < 5 ∨ j = 5) with h | rfl
        · exact hj j h
        · exact hn
      · refine (in_any _ _ _ _).mono ?_
        rintro e w1 ⟨rfl, rfl⟩
        rw [inB_no hn]
        go_wp2_with fail
        go_ret
        exact ⟨by rw [check_many _ (fun h => hn h.2.2.2.2.2)]; rfl, x0⟩
    · have hm : S.okMany ⟨c, a0, a1, a2, a3, a4, a5⟩ := ⟨hj 0 (by omega), hj 1 (by omega), hj 2 (by omega), hj 3 (by omega), hj 4 (by omega), hj 5 (by omega)⟩
      have b0 : okN a0 := hm.1
      have b1 : okN a1 := hm.2.1
      have b2 : okN a2 := hm.2.2.1
      have b3 : okN a3 := hm.2.2.2.1
      have b4 : okN a4 := hm.2.2.2.2.1
      have b5 : okN a5 := hm.2.2.2.2.2
      refine (in_any _ _ _ _).mono ?_
      rintro e w1 ⟨rfl, rfl⟩
      by_cases hc : 1 ≤ c ∧ c ≤ 4096
      · rw [show inB c 1 4096 = true by simp [inB, hc]]
        go_wp2_with fail
        refine region_held none [(0, true), (2, true), (3, true), (1, false), (4, true)] [5] (by kernel_rfl) (by kernel_rfl) (fun _ _ d _ _ h => by cases d <;> exact h) (fun W hW => ?_)
        simp only [pick, pickF, List.getElem?_cons_zero, List.getElem?_cons_succ]
        have xW : Ext w W := by rw [hW]; exact x0.dr
        have d0 := (show Ext _ W by rw [hW]; exact Ext.drew _).cell_some c0
        have d1 := (show Ext _ W by rw [hW]; exact Ext.drew _).cell_some c1
        have d2 := (show Ext _ W by rw [hW]; exact Ext.drew _).cell_some c2
        have d3 := (show Ext _ W by rw [hW]; exact Ext.drew _).cell_some c3
        have d4 := (show Ext _ W by rw [hW]; exact Ext.drew _).cell_some c4
        have d5 := (show Ext _ W by rw [hW]; exact Ext.drew _).cell_some c5
        have d6 := (show Ext _ W by rw [hW]; exact Ext.drew _).cell_some c6
        clear hW c0 c1 c2 c3 c4 c5 c6 x0
        have q0 : ∀ w1, Gr none W w1 → w1.cell? _ = _ := fun w1 h => h.cell_some d0 (by simp)
        have q1 : ∀ w1, Gr none W w1 → w1.cell? _ = _ := fun w1 h => h.cell_some d1 (by simp)
        have q2 : ∀ w1, Gr none W w1 → w1.cell? _ = _ := fun w1 h => h.cell_some d2 (by simp)
        have q3 : ∀ w1, Gr none W w1 → w1.cell? _ = _ := fun w1 h => h.cell_some d3 (by simp)
        have q4 : ∀ w1, Gr none W w1 → w1.cell? _ = _ := fun w1 h => h.cell_some d4 (by simp)
        have q5 : ∀ w1, Gr none W w1 → w1.cell? _ = _ := fun w1 h => h.cell_some d5 (by simp)
        have q6 : ∀ w1, Gr none W w1 → w1.cell? _ = _ := fun w1 h => h.cell_some d6 (by simp)
        have hgr := Gr.refl none W
        iterate 3
          refine held_yes hgr _ rfl (fun w1 hw1 => by unfold Oper.quietAt; go_simp; rfl) ?_
          simp only [Act.put, List.setIfInBounds_toArray, List.set_cons_zero, List.set_cons_succ]
        refine held_step rfl (fun K hK => ?_)
        go_simp
        refine (sum_any W c a0 a1 a2 a3 a4 a5 b0 b1 b2 b3 b4 b5).mono ?_
        rintro e w2 ⟨rfl, x2⟩
        refine hK _ _ (x2.gr _) ?_
        clear hK K
        by_cases hs : c < psum a0 a1 a2 a3 a4 a5 6
        all_goals
          iterate 1
            refine held_yes (x2.gr _) _ rfl (fun w1 hw1 => by unfold Oper.quietAt; go_simp; rfl) ?_
            simp only [Act.put, List.setIfInBounds_toArray, List.set_cons_zero, List.set_cons_succ]
          refine held_nil ?_
          go_wp2_with fail
          go_ret
        · exact ⟨by rw [check_full ⟨c, a0, a1, a2, a3, a4, a5⟩ hm hc hs]; rfl, xW.trans x2⟩
        · exact ⟨by rw [check_ok ⟨c, a0, a1, a2, a3, a4, a5⟩ hm hc hs]; rfl, xW.trans x2⟩
      · rw [show inB c 1 4096 = false by simp [inB]; omega]
        go_wp2_with fail
        go_ret
        exact ⟨by rw [check_cap ⟨c, a0, a1, a2, a3, a4, a5⟩ hc]; rfl, x0⟩

end Go.Proofs.Ytnldfglgdchinaa
