/- How many more fit. -/
import Derived.Test.YtnldfglgdchinaaD
namespace Go.Proofs.Ytnldfglgdchinaa
set_option linter.unusedSimpArgs false
set_option linter.unusedVariables false
open Go.RowKit

def S.fits (s : S) (k n : Int) : Int := if inB k 0 5 = true then max 0 (min n (Int.tdiv s.left (costI k))) else 0

theorem left_bounds (s : S) : 0 ≤ s.left ∧ s.left ≤ 4096 := by
  unfold S.left
  split
  · rename_i h
    obtain ⟨c, a0, a1, a2, a3, a4, a5⟩ := s
    obtain ⟨_, hc, h0, h1⟩ := may h
    show 0 ≤ c - psum a0 a1 a2 a3 a4 a5 6 ∧ c - psum a0 a1 a2 a3 a4 a5 6 ≤ 4096
    omega
  · omega

theorem cost_pos {k : Int} (h : inB k 0 5 = true) : 1 ≤ costI k ∧ costI k ≤ 8 := by
  simp [inB] at h
  unfold costI
  repeat' split
  all_goals omega

theorem left_quo (s : S) (k : Int) (h : inB k 0 5 = true) : 0 ≤ Int.tdiv s.left (costI k) ∧ Int.tdiv s.left (costI k) ≤ 4096 := by
  obtain ⟨h0, h1⟩ := left_bounds s
  obtain ⟨h2, h3⟩ := cost_pos h
  have a := Int.natAbs_tdiv_le_natAbs s.left (costI k)
  have b := Int.tdiv_nonneg h0 (show 0 ≤ costI k by omega)
  omega

set_option maxRecDepth 100000 in
set_option maxHeartbeats 1000000 in
theorem fits_any (w : World) (c a0 a1 a2 a3 a4 a5 k n : Int) :
    Calls Try.prog 13 #[stV c a0 a1 a2 a3 a4 a5, .int .i64 k, .int .i64 n] w fun e w' => e = .returned (.int .i64 (S.fits ⟨c, a0, a1, a2, a3, a4, a5⟩ k n)) ∧ Ext w w' := by
  by_cases hi : inB k 0 5 = true
  · have hv : S.fits ⟨c, a0, a1, a2, a3, a4, a5⟩ k n = max 0 (min n (Int.tdiv (S.left ⟨c, a0, a1, a2, a3, a4, a5⟩) (costI k))) := if_pos hi
    have hc := cost_pos hi
    have hq := left_quo ⟨c, a0, a1, a2, a3, a4, a5⟩ k hi
    have HV := Lib.hid hv
    clear hv
    go_enter Try.func13, Try.ntmps13
    go_wp2_with fail
    obtain ⟨w0, hw0⟩ : ∃ w0, w0 = w.alloc (.cells #[.int .i64 c, .int .i64 a0, .int .i64 a1, .int .i64 a2, .int .i64 a3, .int .i64 a4, .int .i64 a5] 26) := ⟨_, rfl⟩
    rw [← hw0]
    have x0 : Ext w w0 := hw0 ▸ Ext.alloc _ _
    have c0 : w0.cell? ⟨w.heap.size, 0, none⟩ = some (.int .i64 c) := by rw [hw0]; go_simp
    have c1 : w0.cell? ⟨w.heap.size, 1, none⟩ = some (.int .i64 a0) := by rw [hw0]; go_simp
    have c2 : w0.cell? ⟨w.heap.size, 2, none⟩ = some (.int .i64 a1) := by rw [hw0]; go_simp
    have c3 : w0.cell? ⟨w.heap.size, 3, none⟩ = some (.int .i64 a2) := by rw [hw0]; go_simp
    have c4 : w0.cell? ⟨w.heap.size, 4, none⟩ = some (.int .i64 a3) := by rw [hw0]; go_simp
    have c5 : w0.cell? ⟨w.heap.size, 5, none⟩ = some (.int .i64 a4) := by rw [hw0]; go_simp
    have c6 : w0.cell? ⟨w.heap.size, 6, none⟩ = some (.int .i64 a5) := by rw [hw0]; go_simp
    clear hw0
    refine (is_any _ _).mono ?_
    rintro e w1 ⟨rfl, hw⟩
    rw [hw, hi]
    clear hw w1 hi
    go_wp2_with fail
    refine (left_any _ _ _ _ _ _ _ _).mono ?_
    rintro e w1 ⟨rfl, x1⟩
    have x0 := x0.trans x1
    clear c0 c1 c2 c3 c4 c5 c6 x1
    generalize S.left ⟨c, a0, a1, a2, a3, a4, a5⟩ = f at *
    go_wp2_with fail
    refine (cost_any _ _).mono ?_
    rintro e w2 ⟨rfl, x2⟩
    have x0 := x0.trans x2
    clear x2
    generalize costI k = q at *
    have hq0 : q ≠ 0 := by omega
    go_wp2_with fail
    all_goals
      go_ret
      refine ⟨?_, x0⟩
      rw [HV.out]
      refine congrArg (fun z => Ending.returned (.int .i64 z)) ?_
      clear HV
      generalize f.tdiv q = z at *
      (repeat' split at *) <;> omega
  · have hv : S.fits ⟨c, a0, a1, a2, a3, a4, a5⟩ k n = 0 := if_neg hi
    have hi : inB k 0 5 = false := by simpa using hi
    go_enter Try.func13, Try.ntmps13
    go_wp2_with fail
    refine (is_any _ _).mono ?_
    rintro e w1 ⟨rfl, hw⟩
    rw [hw, hi]
    clear hw w1 hi
    go_wp2_with fail
    rw [hv]
    go_ret
    exact ⟨rfl, Ext.alloc _ _⟩

/-- A number k that is 0, or at most n and the quotient, and beyond which there is no next. -/
theorem fits_end {f q n k : Int} (hq : 1 ≤ q) (hf : 0 ≤ f) (h0 : 0 ≤ k) (h1 : k = 0 ∨ (k ≤ n ∧ k * q ≤ f)) (h2 : ¬ (k < n ∧ (k + 1) * q ≤ f)) : k = max 0 (min n (f.tdiv q)) := by
  have e1 : f.tdiv q = f / q := Int.tdiv_eq_ediv_of_nonneg hf
  rw [e1]
  have hd : ∀ z : Int, z ≤ f / q ↔ z * q ≤ f := fun z => Int.le_ediv_iff_mul_le (by omega)
  have hd0 : 0 ≤ f / q := Int.ediv_nonneg hf (by omega)
  have a := hd k
  have b := hd (k + 1)
  generalize f / q = z at *
  rcases h1 with h1 | ⟨h1, h3⟩
  · subst h1
    by_cases hn : (0 : Int) < n
    · have : ¬ (0 + 1) * q ≤ f := fun h => h2 ⟨hn, h⟩
      have : ¬ 0 + 1 ≤ z := fun h => this (b.1 h)
      omega
    · omega
  · have hk : k ≤ z := a.2 h3
    by_cases hn : k < n
    · have : ¬ (k + 1) * q ≤ f := fun h => h2 ⟨hn, h⟩
      have : ¬ k + 1 ≤ z := fun h => this (b.1 h)
      omega
    · omega

set_option maxRecDepth 100000 in
set_option maxHeartbeats 6000000 in
theorem rfits_any (w : World) (c a0 a1 a2 a3 a4 a5 k n : Int) :
    Calls Try.prog 14 #[stV c a0 a1 a2 a3 a4 a5, .int .i64 k, .int .i64 n] w fun e w' => e = .returned (.int .i64 (S.fits ⟨c, a0, a1, a2, a3, a4, a5⟩ k n)) ∧ Ext w w' := by
  by_cases hi : inB k 0 5 = true
  · have hv : S.fits ⟨c, a0, a1, a2, a3, a4, a5⟩ k n = max 0 (min n (Int.tdiv (S.left ⟨c, a0, a1, a2, a3, a4, a5⟩) (costI k))) := if_pos hi
    have hc := cost_pos hi
    have hq := left_bounds ⟨c, a0, a1, a2, a3, a4, a5⟩
    have HV := Lib.hid hv
    clear hv
    go_enter Try.func14, Try.ntmps14
    go_wp2_with fail
    obtain ⟨w0, hw0⟩ : ∃ w0, w0 = w.alloc (.cells #[.int .i64 c, .int .i64 a0, .int .i64 a1, .int .i64 a2, .int .i64 a3, .int .i64 a4, .int .i64 a5] 24) := ⟨_, rfl⟩
    rw [← hw0]
    have x0 : Ext w w0 := hw0 ▸ Ext.alloc _ _
    have c0 : w0.cell? ⟨w.heap.size, 0, none⟩ = some (.int .i64 c) := by rw [hw0]; go_simp
    have c1 : w0.cell? ⟨w.heap.size, 1, none⟩ = some (.int .i64 a0) := by rw [hw0]; go_simp
    have c2 : w0.cell? ⟨w.heap.size, 2, none⟩ = some (.int .i64 a1) := by rw [hw0]; go_simp
    have c3 : w0.cell? ⟨w.heap.size, 3, none⟩ = some (.int .i64 a2) := by rw [hw0]; go_simp
    have c4 : w0.cell? ⟨w.heap.size, 4, none⟩ = some (.int .i64 a3) := by rw [hw0]; go_simp
    have c5 : w0.cell? ⟨w.heap.size, 5, none⟩ = some (.int .i64 a4) := by rw [hw0]; go_simp
    have c6 : w0.cell? ⟨w.heap.size, 6, none⟩ = some (.int .i64 a5) := by rw [hw0]; go_simp
    clear hw0
    refine (rin_any _ _ _ _).mono ?_
    rintro e w1 ⟨rfl, hw⟩
    rw [hw, hi]
    clear hw w1 hi
    go_wp2_with fail
    generalize hf : S.left ⟨c, a0, a1, a2, a3, a4, a5⟩ = f at *
    generalize hqq : costI k = q at *
    have HF := Lib.hid hf
    have HQ := Lib.hid hqq
    clear hf hqq
    go_loopw [7] (fun i wr => ∃ j : Int, i = .int .i64 j ∧ 0 ≤ j ∧ j ≤ 4096 ∧ Hid (j = 0 ∨ (j ≤ n ∧ j * q ≤ f)) ∧ Ext w0 wr) (fun i _ => 4096 - (intOf i).toNat)
    case atStart => exact ⟨0, rfl, by omega, by omega, Lib.hid (.inl rfl), Ext.refl _⟩
    case round =>
      obtain ⟨j, rfl, hj0, hj1, HJ, hx⟩ := hrel
      have c0 := hx.cell_some c0
      have c1 := hx.cell_some c1
      have c2 := hx.cell_some c2
      have c3 := hx.cell_some c3
      have c4 := hx.cell_some c4
      have c5 := hx.cell_some c5
      have c6 := hx.cell_some c6
      go_wp2_with fail
      refine region_held none [(0, true), (1, true), (2, true), (3, true), (4, true), (5, true), (6, true), (9, true), (7, false), (8, true), (10, false), (11, true), (12, true)] [] (by kernel_rfl) (by kernel_rfl) (fun _ _ d _ _ h => by cases d <;> exact h) (fun W hW => ?_)
      simp only [pick, pickF, List.getElem?_cons_zero, List.getElem?_cons_succ]
      have xW : Ext w0 W := by rw [hW]; exact hx.dr
      have d0 := (show Ext _ W by rw [hW]; exact Ext.drew _).cell_some c0
      have d1 := (show Ext _ W by rw [hW]; exact Ext.drew _).cell_some c1
      have d2 := (show Ext _ W by rw [hW]; exact Ext.drew _).cell_some c2
      have d3 := (show Ext _ W by rw [hW]; exact Ext.drew _).cell_some c3
      have d4 := (show Ext _ W by rw [hW]; exact Ext.drew _).cell_some c4
      have d5 := (show Ext _ W by rw [hW]; exact Ext.drew _).cell_some c5
      have d6 := (show Ext _ W by rw [hW]; exact Ext.drew _).cell_some c6
      clear hW c0 c1 c2 c3 c4 c5 c6 hx
      have q0 : ∀ w1, Gr none W w1 → w1.cell? _ = _ := fun w1 h => h.cell_some d0 (by simp)
      have q1 : ∀ w1, Gr none W w1 → w1.cell? _ = _ := fun w1 h => h.cell_some d1 (by simp)
      have q2 : ∀ w1, Gr none W w1 → w1.cell? _ = _ := fun w1 h => h.cell_some d2 (by simp)
      have q3 : ∀ w1, Gr none W w1 → w1.cell? _ = _ := fun w1 h => h.cell_some d3 (by simp)
      have q4 : ∀ w1, Gr none W w1 → w1.cell? _ = _ := fun w1 h => h.cell_some d4 (by simp)
      have q5 : ∀ w1, Gr none W w1 → w1.cell? _ = _ := fun w1 h => h.cell_some d5 (by simp)
      have q6 : ∀ w1, Gr none W w1 → w1.cell? _ = _ := fun w1 h => h.cell_some d6 (by simp)
      have hgr := Gr.refl none W
      have hm : 0 ≤ (j + 1) * q ∧ (j + 1) * q ≤ 4097 * 8 := ⟨Int.mul_nonneg (by omega) (by omega), Int.mul_le_mul (by omega) (by omega) (by omega) (by omega)⟩
      generalize hmm : (j + 1) * q = m at hm
      have HM := Lib.hid hmm
      clear hmm
      by_cases hn : j < n
      · iterate 5
          refine held_yesG hgr _ rfl (fun w1 hw1 => by unfold Oper.quietAt; go_simp; rfl) ?_
          simp only [Act.put, List.setIfInBounds_toArray, List.set_cons_zero, List.set_cons_succ]
        refine held_yesG hgr (.int .i64 (j + 1)) rfl (fun w1 hw1 => by unfold Oper.quietAt; go_simp; exact IntWalk.i64_in _ (by omega)) ?_
        simp only [Act.put, List.setIfInBounds_toArray, List.set_cons_zero, List.set_cons_succ]
        iterate 2
          refine held_yesG hgr _ rfl (fun w1 hw1 => by unfold Oper.quietAt; go_simp; rfl) ?_
          simp only [Act.put, List.setIfInBounds_toArray, List.set_cons_zero, List.set_cons_succ]
        refine held_stepG rfl (fun K hK => ?_)
        go_simp
        refine (rcost_any _ _).mono ?_
        rintro e w2 ⟨rfl, x2⟩
        rw [HQ.out]
        refine hK _ _ (x2.gr _) ?_
        clear hK K
        refine held_yesG (x2.gr _) (.int .i64 m) rfl (fun w1 hw1 => by unfold Oper.quietAt; go_simp; rw [HM.out]; exact IntWalk.i64_in _ (by omega)) ?_
        simp only [Act.put, List.setIfInBounds_toArray, List.set_cons_zero, List.set_cons_succ]
        refine held_stepG rfl (fun K hK => ?_)
        go_simp
        refine (rleft_any _ _ _ _ _ _ _ _).mono ?_
        rintro e w3 ⟨rfl, x3⟩
        rw [HF.out]
        have x3 := x2.trans x3
        refine hK _ _ (x3.gr _) ?_
        clear hK K x2
        have hj4 : m ≤ f → j + 1 ≤ 4096 := fun h => by
          have := HM.out
          have h9 : (j + 1) * 1 ≤ (j + 1) * q := Int.mul_le_mul_of_nonneg_left (by omega) (by omega)
          omega
        have HJ4 := Lib.hid hj4
        clear hj4
        by_cases hmf : m ≤ f
        all_goals
          iterate 2
            refine held_yesG (x3.gr _) _ rfl (fun w1 hw1 => by unfold Oper.quietAt; go_simp; rfl) ?_
            simp only [Act.put, List.setIfInBounds_toArray, List.set_cons_zero, List.set_cons_succ]
          refine held_nil ?_
          go_wp2_with fail
        · refine ⟨⟨j + 1, ?_, by omega, HJ4.out hmf, Lib.hid (.inr ⟨by omega, by rw [HM.out]; exact hmf⟩), xW.trans x3⟩, ?_⟩
          · go_num
          · simp [intOf]
            have := HJ4.out hmf
            omega
        · go_ret
          refine ⟨?_, x0.trans (xW.trans x3)⟩
          rw [HV.out]
          refine congrArg (fun z => Ending.returned (.int .i64 z)) ?_
          exact fits_end hc.1 hq.1 hj0 HJ.out (fun h => by have := HM.out; have h2 := h.2; omega)
      · iterate 3
          refine held_yesG hgr _ rfl (fun w1 hw1 => by unfold Oper.quietAt; go_simp; rfl) ?_
          simp only [Act.put, List.setIfInBounds_toArray, List.set_cons_zero, List.set_cons_succ]
        refine held_yesG hgr _ rfl (fun w1 hw1 => by unfold Oper.quietAt; go_simp; rfl) ?_
        simp only [Act.put, List.setIfInBounds_toArray, List.set_cons_zero, List.set_cons_succ]
        iterate 8
          refine held_noG (by simp [Region.wanted, yielded]) ?_
          simp only [Act.put, List.setIfInBounds_toArray, List.set_cons_zero, List.set_cons_succ]
        refine held_yesG hgr _ rfl (fun w1 hw1 => by unfold Oper.quietAt; go_simp; rfl) ?_
        simp only [Act.put, List.setIfInBounds_toArray, List.set_cons_zero, List.set_cons_succ]
        refine held_nil ?_
        go_wp2_with fail
        go_ret
        refine ⟨?_, x0.trans xW⟩
        rw [HV.out]
        refine congrArg (fun z => Ending.returned (.int .i64 z)) ?_
        exact fits_end hc.1 hq.1 hj0 HJ.out (fun h => by have h2 := h.1; omega)
  · have hv : S.fits ⟨c, a0, a1, a2, a3, a4, a5⟩ k n = 0 := if_neg hi
    have hi : inB k 0 5 = false := by simpa using hi
    go_enter Try.func14, Try.ntmps14
    go_wp2_with fail
    refine (rin_any _ _ _ _).mono ?_
    rintro e w1 ⟨rfl, hw⟩
    rw [hw, hi]
    clear hw w1 hi
    go_wp2_with fail
    rw [hv]
    go_ret
    exact ⟨rfl, Ext.alloc _ _⟩

end Go.Proofs.Ytnldfglgdchinaa
