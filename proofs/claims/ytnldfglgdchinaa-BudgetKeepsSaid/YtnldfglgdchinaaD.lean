/- What is charged in all, what is left, and how full a state is. -/
import Derived.Test.YtnldfglgdchinaaC
namespace Go.Proofs.Ytnldfglgdchinaa
set_option linter.unusedSimpArgs false
set_option linter.unusedVariables false
open Go.RowKit

def S.total (s : S) : Int := if s.check = 0 then s.sum else 0
def S.left (s : S) : Int := if s.check = 0 then s.c - s.sum else 0
def S.load (s : S) : Int := if s.check = 0 then Int.tdiv (s.sum * 100) s.c else 0

theorem sum_bounds {a0 a1 a2 a3 a4 a5 : Int} (h0 : okN a0) (h1 : okN a1) (h2 : okN a2) (h3 : okN a3) (h4 : okN a4) (h5 : okN a5) : 0 ≤ psum a0 a1 a2 a3 a4 a5 6 ∧ psum a0 a1 a2 a3 a4 a5 6 ≤ 98304 := by
  have h0 := ok_bound h0
  have h1 := ok_bound h1
  have h2 := ok_bound h2
  have h3 := ok_bound h3
  have h4 := ok_bound h4
  have h5 := ok_bound h5
  simp only [psum]
  omega

theorem many_parts {c a0 a1 a2 a3 a4 a5 : Int} (hm : S.okMany ⟨c, a0, a1, a2, a3, a4, a5⟩) : okN a0 ∧ okN a1 ∧ okN a2 ∧ okN a3 ∧ okN a4 ∧ okN a5 := hm

theorem quo_bounds (s c : Int) (h0 : 0 ≤ s) (h1 : s ≤ 4096) : -9223372036854775808 ≤ (s * 100).tdiv c ∧ (s * 100).tdiv c ≤ 9223372036854775807 := by
  have a := Int.natAbs_tdiv_le_natAbs (s * 100) c
  omega

/-- What a state that may be is. -/
theorem may {c a0 a1 a2 a3 a4 a5 : Int} (h : S.check ⟨c, a0, a1, a2, a3, a4, a5⟩ = 0) :
    (okN a0 ∧ okN a1 ∧ okN a2 ∧ okN a3 ∧ okN a4 ∧ okN a5) ∧ (1 ≤ c ∧ c ≤ 4096) ∧ 0 ≤ psum a0 a1 a2 a3 a4 a5 6 ∧ psum a0 a1 a2 a3 a4 a5 6 ≤ c := by
  obtain ⟨hm, hc, hs⟩ := check_zero _ h
  obtain ⟨h0, h1, h2, h3, h4, h5⟩ := many_parts hm
  exact ⟨⟨h0, h1, h2, h3, h4, h5⟩, hc, (sum_bounds h0 h1 h2 h3 h4 h5).1, hs⟩

set_option maxRecDepth 100000 in
set_option maxHeartbeats 1000000 in
theorem total_any (w : World) (c a0 a1 a2 a3 a4 a5 : Int) :
    Calls Try.prog 20 #[stV c a0 a1 a2 a3 a4 a5] w fun e w' => e = .returned (.int .i64 (S.total ⟨c, a0, a1, a2, a3, a4, a5⟩)) ∧ Ext w w' := by
  go_enter Try.func20, Try.ntmps20
  go_wp2_with fail
  obtain ⟨w0, hw0⟩ : ∃ w0, w0 = w.alloc (.cells #[.int .i64 c, .int .i64 a0, .int .i64 a1, .int .i64 a2, .int .i64 a3, .int .i64 a4, .int .i64 a5] 26) := ⟨_, rfl⟩
  rw [← hw0]
  have x0 : Ext w w0 := hw0 ▸ Ext.alloc _ _
  have c0 : w0.cell? ⟨w.heap.size, 0, none⟩ = some (.int .i64 c) := by rw [hw0]; go_simp
  have c1 : w0.cell? ⟨w.heap.size, 1, none⟩ = some (.int .i64 a0) := by rw [hw0]; go_simp
  have c2 : w0.cell? ⟨w.heap.size, 2, none⟩ = some (.int .i64 a1) := by rw [hw0]; go_simp
  have c3 : w0.cell? ⟨w.heap.size, 3, none⟩ = some (.int .i64 a2) := by rw [hw0]; go_simp
  have c4 : w0.cell? ⟨w.heap.size, 4, none⟩ = some (.int .i64 a3) := by rw [hw0]; go_simp
  have c5 : w0.cell? ⟨w.heap.size, 5, none⟩ = some (.int .i64 a4) := by rw [hw0]; go_simp
  have c6 : w0.cell? ⟨w.heap.size, 6, none⟩ = some (.int .i64 a5) := by rw [hw0]; go_simp
  clear hw0
  refine (check_any w0 c a0 a1 a2 a3 a4 a5).mono ?_
  rintro e w1 ⟨rfl, x1⟩
  have x0 := x0.trans x1
  have c0 := x1.cell_some c0
  have c1 := x1.cell_some c1
  have c2 := x1.cell_some c2
  have c3 := x1.cell_some c3
  have c4 := x1.cell_some c4
  have c5 := x1.cell_some c5
  have c6 := x1.cell_some c6
  clear x1
  by_cases hz : S.check ⟨c, a0, a1, a2, a3, a4, a5⟩ = 0
  case' neg =>
    have hv : S.total ⟨c, a0, a1, a2, a3, a4, a5⟩ = 0 := if_neg hz
    generalize S.check ⟨c, a0, a1, a2, a3, a4, a5⟩ = z at *
    go_wp2_with fail
    go_ret
    exact ⟨by rw [hv]; rfl, x0⟩
  case' pos =>
    have hv : S.total ⟨c, a0, a1, a2, a3, a4, a5⟩ = psum a0 a1 a2 a3 a4 a5 6 := if_pos hz
    obtain ⟨⟨h0, h1, h2, h3, h4, h5⟩, hc, hs0, hs1⟩ := may hz
    have H0 := Lib.hid h0
    have H1 := Lib.hid h1
    have H2 := Lib.hid h2
    have H3 := Lib.hid h3
    have H4 := Lib.hid h4
    have H5 := Lib.hid h5
    have HV := Lib.hid hv
    clear h0 h1 h2 h3 h4 h5 hv
    rw [hz]
    clear hz
    go_wp2_with fail
    refine (sum_any _ c a0 a1 a2 a3 a4 a5 H0.out H1.out H2.out H3.out H4.out H5.out).mono ?_
    rintro e w2 ⟨rfl, x2⟩
    go_wp2_with fail
    go_ret
    exact ⟨by rw [HV.out]; rfl, x0.trans x2⟩

set_option maxRecDepth 100000 in
set_option maxHeartbeats 1000000 in
theorem left_any (w : World) (c a0 a1 a2 a3 a4 a5 : Int) :
    Calls Try.prog 22 #[stV c a0 a1 a2 a3 a4 a5] w fun e w' => e = .returned (.int .i64 (S.left ⟨c, a0, a1, a2, a3, a4, a5⟩)) ∧ Ext w w' := by
  go_enter Try.func22, Try.ntmps22
  go_wp2_with fail
  obtain ⟨w0, hw0⟩ : ∃ w0, w0 = w.alloc (.cells #[.int .i64 c, .int .i64 a0, .int .i64 a1, .int .i64 a2, .int .i64 a3, .int .i64 a4, .int .i64 a5] 26) := ⟨_, rfl⟩
  rw [← hw0]
  have x0 : Ext w w0 := hw0 ▸ Ext.alloc _ _
  have c0 : w0.cell? ⟨w.heap.size, 0, none⟩ = some (.int .i64 c) := by rw [hw0]; go_simp
  have c1 : w0.cell? ⟨w.heap.size, 1, none⟩ = some (.int .i64 a0) := by rw [hw0]; go_simp
  have c2 : w0.cell? ⟨w.heap.size, 2, none⟩ = some (.int .i64 a1) := by rw [hw0]; go_simp
  have c3 : w0.cell? ⟨w.heap.size, 3, none⟩ = some (.int .i64 a2) := by rw [hw0]; go_simp
  have c4 : w0.cell? ⟨w.heap.size, 4, none⟩ = some (.int .i64 a3) := by rw [hw0]; go_simp
  have c5 : w0.cell? ⟨w.heap.size, 5, none⟩ = some (.int .i64 a4) := by rw [hw0]; go_simp
  have c6 : w0.cell? ⟨w.heap.size, 6, none⟩ = some (.int .i64 a5) := by rw [hw0]; go_simp
  clear hw0
  refine (check_any w0 c a0 a1 a2 a3 a4 a5).mono ?_
  rintro e w1 ⟨rfl, x1⟩
  have x0 := x0.trans x1
  have c0 := x1.cell_some c0
  have c1 := x1.cell_some c1
  have c2 := x1.cell_some c2
  have c3 := x1.cell_some c3
  have c4 := x1.cell_some c4
  have c5 := x1.cell_some c5
  have c6 := x1.cell_some c6
  clear x1
  by_cases hz : S.check ⟨c, a0, a1, a2, a3, a4, a5⟩ = 0
  case' neg =>
    have hv : S.left ⟨c, a0, a1, a2, a3, a4, a5⟩ = 0 := if_neg hz
    generalize S.check ⟨c, a0, a1, a2, a3, a4, a5⟩ = z at *
    go_wp2_with fail
    go_ret
    exact ⟨by rw [hv]; rfl, x0⟩
  case' pos =>
    have hv : S.left ⟨c, a0, a1, a2, a3, a4, a5⟩ = c - psum a0 a1 a2 a3 a4 a5 6 := if_pos hz
    obtain ⟨⟨h0, h1, h2, h3, h4, h5⟩, hc, hs0, hs1⟩ := may hz
    have H0 := Lib.hid h0
    have H1 := Lib.hid h1
    have H2 := Lib.hid h2
    have H3 := Lib.hid h3
    have H4 := Lib.hid h4
    have H5 := Lib.hid h5
    have HV := Lib.hid hv
    clear h0 h1 h2 h3 h4 h5 hv
    rw [hz]
    clear hz
    go_wp2_with fail
    refine region_held none [(0, true), (1, true), (2, true), (3, false), (4, true)] [5] (by kernel_rfl) (by kernel_rfl) (fun _ _ d _ _ h => by cases d <;> exact h) (fun W hW => ?_)
    simp only [pick, pickF, List.getElem?_cons_zero, List.getElem?_cons_succ]
    have xW : Ext w W := by rw [hW]; exact x0.dr
    have d0 := (show Ext _ W by rw [hW]; exact Ext.drew _).cell_some c0
    have d1 := (show Ext _ W by rw [hW]; exact Ext.drew _).cell_some c1
    have d2 := (show Ext _ W by rw [hW]; exact Ext.drew _).cell_some c2
    have d3 := (show Ext _ W by rw [hW]; exact Ext.drew _).cell_some c3
    have d4 := (show Ext _ W by rw [hW]; exact Ext.drew _).cell_some c4
    have d5 := (show Ext _ W by rw [hW]; exact Ext.drew _).cell_some c5
    have d6 := (show Ext _ W by rw [hW]; exact Ext.drew _).cell_some c6
    clear hW c0 c1 c2 c3 c4 c5 c6 x0
    have q0 : ∀ w1, Gr none W w1 → w1.cell? _ = _ := fun w1 h => h.cell_some d0 (by simp)
    have q1 : ∀ w1, Gr none W w1 → w1.cell? _ = _ := fun w1 h => h.cell_some d1 (by simp)
    have q2 : ∀ w1, Gr none W w1 → w1.cell? _ = _ := fun w1 h => h.cell_some d2 (by simp)
    have q3 : ∀ w1, Gr none W w1 → w1.cell? _ = _ := fun w1 h => h.cell_some d3 (by simp)
    have q4 : ∀ w1, Gr none W w1 → w1.cell? _ = _ := fun w1 h => h.cell_some d4 (by simp)
    have q5 : ∀ w1, Gr none W w1 → w1.cell? _ = _ := fun w1 h => h.cell_some d5 (by simp)
    have q6 : ∀ w1, Gr none W w1 → w1.cell? _ = _ := fun w1 h => h.cell_some d6 (by simp)
    have hgr := Gr.refl none W
    iterate 3
      refine held_yes hgr _ rfl (fun w1 hw1 => by unfold Oper.quietAt; go_simp; rfl) ?_
      simp only [Act.put, List.setIfInBounds_toArray, List.set_cons_zero, List.set_cons_succ]
    refine held_step rfl (fun K hK => ?_)
    go_simp
    refine (sum_any W c a0 a1 a2 a3 a4 a5 H0.out H1.out H2.out H3.out H4.out H5.out).mono ?_
    rintro e w2 ⟨rfl, x2⟩
    generalize psum a0 a1 a2 a3 a4 a5 6 = s at *
    refine hK _ _ (x2.gr _) ?_
    clear hK K
    refine held_yes (x2.gr _) (.int .i64 (c - s)) rfl (fun w1 hw1 => by unfold Oper.quietAt; go_simp; exact IntWalk.i64_in _ (by omega)) ?_
    simp only [Act.put, List.setIfInBounds_toArray, List.set_cons_zero, List.set_cons_succ]
    refine held_nil ?_
    go_wp2_with fail
    go_ret
    exact ⟨by rw [HV.out]; rfl, xW.trans x2⟩

set_option maxRecDepth 100000 in
set_option maxHeartbeats 1000000 in
theorem load_any (w : World) (c a0 a1 a2 a3 a4 a5 : Int) :
    Calls Try.prog 24 #[stV c a0 a1 a2 a3 a4 a5] w fun e w' => e = .returned (.int .i64 (S.load ⟨c, a0, a1, a2, a3, a4, a5⟩)) ∧ Ext w w' := by
  go_enter Try.func24, Try.ntmps24
  go_wp2_with fail
  obtain ⟨w0, hw0⟩ : ∃ w0, w0 = w.alloc (.cells #[.int .i64 c, .int .i64 a0, .int .i64 a1, .int .i64 a2, .int .i64 a3, .int .i64 a4, .int .i64 a5] 26) := ⟨_, rfl⟩
  rw [← hw0]
  have x0 : Ext w w0 := hw0 ▸ Ext.alloc _ _
  have c0 : w0.cell? ⟨w.heap.size, 0, none⟩ = some (.int .i64 c) := by rw [hw0]; go_simp
  have c1 : w0.cell? ⟨w.heap.size, 1, none⟩ = some (.int .i64 a0) := by rw [hw0]; go_simp
  have c2 : w0.cell? ⟨w.heap.size, 2, none⟩ = some (.int .i64 a1) := by rw [hw0]; go_simp
  have c3 : w0.cell? ⟨w.heap.size, 3, none⟩ = some (.int .i64 a2) := by rw [hw0]; go_simp
  have c4 : w0.cell? ⟨w.heap.size, 4, none⟩ = some (.int .i64 a3) := by rw [hw0]; go_simp
  have c5 : w0.cell? ⟨w.heap.size, 5, none⟩ = some (.int .i64 a4) := by rw [hw0]; go_simp
  have c6 : w0.cell? ⟨w.heap.size, 6, none⟩ = some (.int .i64 a5) := by rw [hw0]; go_simp
  clear hw0
  refine (check_any w0 c a0 a1 a2 a3 a4 a5).mono ?_
  rintro e w1 ⟨rfl, x1⟩
  have x0 := x0.trans x1
  have c0 := x1.cell_some c0
  have c1 := x1.cell_some c1
  have c2 := x1.cell_some c2
  have c3 := x1.cell_some c3
  have c4 := x1.cell_some c4
  have c5 := x1.cell_some c5
  have c6 := x1.cell_some c6
  clear x1
  by_cases hz : S.check ⟨c, a0, a1, a2, a3, a4, a5⟩ = 0
  case' neg =>
    have hv : S.load ⟨c, a0, a1, a2, a3, a4, a5⟩ = 0 := if_neg hz
    generalize S.check ⟨c, a0, a1, a2, a3, a4, a5⟩ = z at *
    go_wp2_with fail
    go_ret
    exact ⟨by rw [hv]; rfl, x0⟩
  case' pos =>
    have hv : S.load ⟨c, a0, a1, a2, a3, a4, a5⟩ = Int.tdiv (psum a0 a1 a2 a3 a4 a5 6 * 100) c := if_pos hz
    obtain ⟨⟨h0, h1, h2, h3, h4, h5⟩, hc, hs0, hs1⟩ := may hz
    have H0 := Lib.hid h0
    have H1 := Lib.hid h1
    have H2 := Lib.hid h2
    have H3 := Lib.hid h3
    have H4 := Lib.hid h4
    have H5 := Lib.hid h5
    have HV := Lib.hid hv
    clear h0 h1 h2 h3 h4 h5 hv
    rw [hz]
    clear hz
    go_wp2_with fail
    refine region_held none [(0, true), (3, true), (4, true), (1, false), (2, true), (5, true)] [6] (by kernel_rfl) (by kernel_rfl) (fun _ _ d _ _ h => by cases d <;> exact h) (fun W hW => ?_)
    simp only [pick, pickF, List.getElem?_cons_zero, List.getElem?_cons_succ]
    have xW : Ext w W := by rw [hW]; exact x0.dr
    have d0 := (show Ext _ W by rw [hW]; exact Ext.drew _).cell_some c0
    have d1 := (show Ext _ W by rw [hW]; exact Ext.drew _).cell_some c1
    have d2 := (show Ext _ W by rw [hW]; exact Ext.drew _).cell_some c2
    have d3 := (show Ext _ W by rw [hW]; exact Ext.drew _).cell_some c3
    have d4 := (show Ext _ W by rw [hW]; exact Ext.drew _).cell_some c4
    have d5 := (show Ext _ W by rw [hW]; exact Ext.drew _).cell_some c5
    have d6 := (show Ext _ W by rw [hW]; exact Ext.drew _).cell_some c6
    clear hW c0 c1 c2 c3 c4 c5 c6 x0
    have q0 : ∀ w1, Gr none W w1 → w1.cell? _ = _ := fun w1 h => h.cell_some d0 (by simp)
    have q1 : ∀ w1, Gr none W w1 → w1.cell? _ = _ := fun w1 h => h.cell_some d1 (by simp)
    have q2 : ∀ w1, Gr none W w1 → w1.cell? _ = _ := fun w1 h => h.cell_some d2 (by simp)
    have q3 : ∀ w1, Gr none W w1 → w1.cell? _ = _ := fun w1 h => h.cell_some d3 (by simp)
    have q4 : ∀ w1, Gr none W w1 → w1.cell? _ = _ := fun w1 h => h.cell_some d4 (by simp)
    have q5 : ∀ w1, Gr none W w1 → w1.cell? _ = _ := fun w1 h => h.cell_some d5 (by simp)
    have q6 : ∀ w1, Gr none W w1 → w1.cell? _ = _ := fun w1 h => h.cell_some d6 (by simp)
    have hgr := Gr.refl none W
    iterate 3
      refine held_yes hgr _ rfl (fun w1 hw1 => by unfold Oper.quietAt; go_simp; rfl) ?_
      simp only [Act.put, List.setIfInBounds_toArray, List.set_cons_zero, List.set_cons_succ]
    refine held_step rfl (fun K hK => ?_)
    go_simp
    refine (sum_any W c a0 a1 a2 a3 a4 a5 H0.out H1.out H2.out H3.out H4.out H5.out).mono ?_
    rintro e w2 ⟨rfl, x2⟩
    generalize psum a0 a1 a2 a3 a4 a5 6 = s at *
    refine hK _ _ (x2.gr _) ?_
    clear hK K
    refine held_yes (x2.gr _) (.int .i64 (s * 100)) rfl (fun w1 hw1 => by unfold Oper.quietAt; go_simp; first | exact IntWalk.i64_in _ (by omega) | (rw [IntWalk.i64_in _ (by omega)]; omega)) ?_
    simp only [Act.put, List.setIfInBounds_toArray, List.set_cons_zero, List.set_cons_succ]
    have hc0 : c ≠ 0 := by omega
    refine held_yes (x2.gr _) (.int .i64 (Int.tdiv (s * 100) c)) rfl (fun w1 hw1 => by unfold Oper.quietAt; go_simp; exact IntWalk.i64_in _ (quo_bounds s c (by omega) (by omega))) ?_
    simp only [Act.put, List.setIfInBounds_toArray, List.set_cons_zero, List.set_cons_succ]
    refine held_nil ?_
    go_wp2_with fail
    go_ret
    exact ⟨by rw [HV.out]; rfl, xW.trans x2⟩

set_option maxRecDepth 100000 in
set_option maxHeartbeats 1000000 in
theorem rtotal_any (w : World) (c a0 a1 a2 a3 a4 a5 : Int) :
    Calls Try.prog 21 #[stV c a0 a1 a2 a3 a4 a5] w fun e w' => e = .returned (.int .i64 (S.total ⟨c, a0, a1, a2, a3, a4, a5⟩)) ∧ Ext w w' := by
  go_enter Try.func21, Try.ntmps21
  go_wp2_with fail
  obtain ⟨w0, hw0⟩ : ∃ w0, w0 = w.alloc (.cells #[.int .i64 c, .int .i64 a0, .int .i64 a1, .int .i64 a2, .int .i64 a3, .int .i64 a4, .int .i64 a5] 24) := ⟨_, rfl⟩
  rw [← hw0]
  have x0 : Ext w w0 := hw0 ▸ Ext.alloc _ _
  have c0 : w0.cell? ⟨w.heap.size, 0, none⟩ = some (.int .i64 c) := by rw [hw0]; go_simp
  have c1 : w0.cell? ⟨w.heap.size, 1, none⟩ = some (.int .i64 a0) := by rw [hw0]; go_simp
  have c2 : w0.cell? ⟨w.heap.size, 2, none⟩ = some (.int .i64 a1) := by rw [hw0]; go_simp
  have c3 : w0.cell? ⟨w.heap.size, 3, none⟩ = some (.int .i64 a2) := by rw [hw0]; go_simp
  have c4 : w0.cell? ⟨w.heap.size, 4, none⟩ = some (.int .i64 a3) := by rw [hw0]; go_simp
  have c5 : w0.cell? ⟨w.heap.size, 5, none⟩ = some (.int .i64 a4) := by rw [hw0]; go_simp
  have c6 : w0.cell? ⟨w.heap.size, 6, none⟩ = some (.int .i64 a5) := by rw [hw0]; go_simp
  clear hw0
  refine (rcheck_any w0 c a0 a1 a2 a3 a4 a5).mono ?_
  rintro e w1 ⟨rfl, x1⟩
  have x0 := x0.trans x1
  have c0 := x1.cell_some c0
  have c1 := x1.cell_some c1
  have c2 := x1.cell_some c2
  have c3 := x1.cell_some c3
  have c4 := x1.cell_some c4
  have c5 := x1.cell_some c5
  have c6 := x1.cell_some c6
  clear x1
  by_cases hz : S.check ⟨c, a0, a1, a2, a3, a4, a5⟩ = 0
  case' neg =>
    have hv : S.total ⟨c, a0, a1, a2, a3, a4, a5⟩ = 0 := if_neg hz
    generalize S.check ⟨c, a0, a1, a2, a3, a4, a5⟩ = z at *
    go_wp2_with fail
    go_ret
    exact ⟨by rw [hv]; rfl, x0⟩
  case' pos =>
    have hv : S.total ⟨c, a0, a1, a2, a3, a4, a5⟩ = psum a0 a1 a2 a3 a4 a5 6 := if_pos hz
    obtain ⟨⟨h0, h1, h2, h3, h4, h5⟩, hc, hs0, hs1⟩ := may hz
    have H0 := Lib.hid h0
    have H1 := Lib.hid h1
    have H2 := Lib.hid h2
    have H3 := Lib.hid h3
    have H4 := Lib.hid h4
    have H5 := Lib.hid h5
    have HV := Lib.hid hv
    clear h0 h1 h2 h3 h4 h5 hv
    rw [hz]
    clear hz
    go_wp2_with fail
    refine (rsum_any _ c a0 a1 a2 a3 a4 a5 H0.out H1.out H2.out H3.out H4.out H5.out).mono ?_
    rintro e w2 ⟨rfl, x2⟩
    go_wp2_with fail
    go_ret
    exact ⟨by rw [HV.out]; rfl, x0.trans x2⟩

set_option maxRecDepth 100000 in
set_option maxHeartbeats 1000000 in
theorem rleft_any (w : World) (c a0 a1 a2 a3 a4 a5 : Int) :
    Calls Try.prog 23 #[stV c a0 a1 a2 a3 a4 a5] w fun e w' => e = .returned (.int .i64 (S.left ⟨c, a0, a1, a2, a3, a4, a5⟩)) ∧ Ext w w' := by
  go_enter Try.func23, Try.ntmps23
  go_wp2_with fail
  obtain ⟨w0, hw0⟩ : ∃ w0, w0 = w.alloc (.cells #[.int .i64 c, .int .i64 a0, .int .i64 a1, .int .i64 a2, .int .i64 a3, .int .i64 a4, .int .i64 a5] 24) := ⟨_, rfl⟩
  rw [← hw0]
  have x0 : Ext w w0 := hw0 ▸ Ext.alloc _ _
  have c0 : w0.cell? ⟨w.heap.size, 0, none⟩ = some (.int .i64 c) := by rw [hw0]; go_simp
  have c1 : w0.cell? ⟨w.heap.size, 1, none⟩ = some (.int .i64 a0) := by rw [hw0]; go_simp
  have c2 : w0.cell? ⟨w.heap.size, 2, none⟩ = some (.int .i64 a1) := by rw [hw0]; go_simp
  have c3 : w0.cell? ⟨w.heap.size, 3, none⟩ = some (.int .i64 a2) := by rw [hw0]; go_simp
  have c4 : w0.cell? ⟨w.heap.size, 4, none⟩ = some (.int .i64 a3) := by rw [hw0]; go_simp
  have c5 : w0.cell? ⟨w.heap.size, 5, none⟩ = some (.int .i64 a4) := by rw [hw0]; go_simp
  have c6 : w0.cell? ⟨w.heap.size, 6, none⟩ = some (.int .i64 a5) := by rw [hw0]; go_simp
  clear hw0
  refine (rcheck_any w0 c a0 a1 a2 a3 a4 a5).mono ?_
  rintro e w1 ⟨rfl, x1⟩
  have x0 := x0.trans x1
  have c0 := x1.cell_some c0
  have c1 := x1.cell_some c1
  have c2 := x1.cell_some c2
  have c3 := x1.cell_some c3
  have c4 := x1.cell_some c4
  have c5 := x1.cell_some c5
  have c6 := x1.cell_some c6
  clear x1
  by_cases hz : S.check ⟨c, a0, a1, a2, a3, a4, a5⟩ = 0
  case' neg =>
    have hv : S.left ⟨c, a0, a1, a2, a3, a4, a5⟩ = 0 := if_neg hz
    generalize S.check ⟨c, a0, a1, a2, a3, a4, a5⟩ = z at *
    go_wp2_with fail
    go_ret
    exact ⟨by rw [hv]; rfl, x0⟩
  case' pos =>
    have hv : S.left ⟨c, a0, a1, a2, a3, a4, a5⟩ = c - psum a0 a1 a2 a3 a4 a5 6 := if_pos hz
    obtain ⟨⟨h0, h1, h2, h3, h4, h5⟩, hc, hs0, hs1⟩ := may hz
    have H0 := Lib.hid h0
    have H1 := Lib.hid h1
    have H2 := Lib.hid h2
    have H3 := Lib.hid h3
    have H4 := Lib.hid h4
    have H5 := Lib.hid h5
    have HV := Lib.hid hv
    clear h0 h1 h2 h3 h4 h5 hv
    rw [hz]
    clear hz
    go_wp2_with fail
    refine region_held none [(0, true), (1, true), (2, true), (3, false), (4, true)] [5] (by kernel_rfl) (by kernel_rfl) (fun _ _ d _ _ h => by cases d <;> exact h) (fun W hW => ?_)
    simp only [pick, pickF, List.getElem?_cons_zero, List.getElem?_cons_succ]
    have xW : Ext w W := by rw [hW]; exact x0.dr
    have d0 := (show Ext _ W by rw [hW]; exact Ext.drew _).cell_some c0
    have d1 := (show Ext _ W by rw [hW]; exact Ext.drew _).cell_some c1
    have d2 := (show Ext _ W by rw [hW]; exact Ext.drew _).cell_some c2
    have d3 := (show Ext _ W by rw [hW]; exact Ext.drew _).cell_some c3
    have d4 := (show Ext _ W by rw [hW]; exact Ext.drew _).cell_some c4
    have d5 := (show Ext _ W by rw [hW]; exact Ext.drew _).cell_some c5
    have d6 := (show Ext _ W by rw [hW]; exact Ext.drew _).cell_some c6
    clear hW c0 c1 c2 c3 c4 c5 c6 x0
    have q0 : ∀ w1, Gr none W w1 → w1.cell? _ = _ := fun w1 h => h.cell_some d0 (by simp)
    have q1 : ∀ w1, Gr none W w1 → w1.cell? _ = _ := fun w1 h => h.cell_some d1 (by simp)
    have q2 : ∀ w1, Gr none W w1 → w1.cell? _ = _ := fun w1 h => h.cell_some d2 (by simp)
    have q3 : ∀ w1, Gr none W w1 → w1.cell? _ = _ := fun w1 h => h.cell_some d3 (by simp)
    have q4 : ∀ w1, Gr none W w1 → w1.cell? _ = _ := fun w1 h => h.cell_some d4 (by simp)
    have q5 : ∀ w1, Gr none W w1 → w1.cell? _ = _ := fun w1 h => h.cell_some d5 (by simp)
    have q6 : ∀ w1, Gr none W w1 → w1.cell? _ = _ := fun w1 h => h.cell_some d6 (by simp)
    have hgr := Gr.refl none W
    iterate 3
      refine held_yes hgr _ rfl (fun w1 hw1 => by unfold Oper.quietAt; go_simp; rfl) ?_
      simp only [Act.put, List.setIfInBounds_toArray, List.set_cons_zero, List.set_cons_succ]
    refine held_step rfl (fun K hK => ?_)
    go_simp
    refine (rsum_any W c a0 a1 a2 a3 a4 a5 H0.out H1.out H2.out H3.out H4.out H5.out).mono ?_
    rintro e w2 ⟨rfl, x2⟩
    generalize psum a0 a1 a2 a3 a4 a5 6 = s at *
    refine hK _ _ (x2.gr _) ?_
    clear hK K
    refine held_yes (x2.gr _) (.int .i64 (c - s)) rfl (fun w1 hw1 => by unfold Oper.quietAt; go_simp; exact IntWalk.i64_in _ (by omega)) ?_
    simp only [Act.put, List.setIfInBounds_toArray, List.set_cons_zero, List.set_cons_succ]
    refine held_nil ?_
    go_wp2_with fail
    go_ret
    exact ⟨by rw [HV.out]; rfl, xW.trans x2⟩

set_option maxRecDepth 100000 in
set_option maxHeartbeats 1000000 in
theorem rload_any (w : World) (c a0 a1 a2 a3 a4 a5 : Int) :
    Calls Try.prog 25 #[stV c a0 a1 a2 a3 a4 a5] w fun e w' => e = .returned (.int .i64 (S.load ⟨c, a0, a1, a2, a3, a4, a5⟩)) ∧ Ext w w' := by
  go_enter Try.func25, Try.ntmps25
  go_wp2_with fail
  obtain ⟨w0, hw0⟩ : ∃ w0, w0 = w.alloc (.cells #[.int .i64 c, .int .i64 a0, .int .i64 a1, .int .i64 a2, .int .i64 a3, .int .i64 a4, .int .i64 a5] 24) := ⟨_, rfl⟩
  rw [← hw0]
  have x0 : Ext w w0 := hw0 ▸ Ext.alloc _ _
  have c0 : w0.cell? ⟨w.heap.size, 0, none⟩ = some (.int .i64 c) := by rw [hw0]; go_simp
  have c1 : w0.cell? ⟨w.heap.size, 1, none⟩ = some (.int .i64 a0) := by rw [hw0]; go_simp
  have c2 : w0.cell? ⟨w.heap.size, 2, none⟩ = some (.int .i64 a1) := by rw [hw0]; go_simp
  have c3 : w0.cell? ⟨w.heap.size, 3, none⟩ = some (.int .i64 a2) := by rw [hw0]; go_simp
  have c4 : w0.cell? ⟨w.heap.size, 4, none⟩ = some (.int .i64 a3) := by rw [hw0]; go_simp
  have c5 : w0.cell? ⟨w.heap.size, 5, none⟩ = some (.int .i64 a4) := by rw [hw0]; go_simp
  have c6 : w0.cell? ⟨w.heap.size, 6, none⟩ = some (.int .i64 a5) := by rw [hw0]; go_simp
  clear hw0
  refine (rcheck_any w0 c a0 a1 a2 a3 a4 a5).mono ?_
  rintro e w1 ⟨rfl, x1⟩
  have x0 := x0.trans x1
  have c0 := x1.cell_some c0
  have c1 := x1.cell_some c1
  have c2 := x1.cell_some c2
  have c3 := x1.cell_some c3
  have c4 := x1.cell_some c4
  have c5 := x1.cell_some c5
  have c6 := x1.cell_some c6
  clear x1
  by_cases hz : S.check ⟨c, a0, a1, a2, a3, a4, a5⟩ = 0
  case' neg =>
    have hv : S.load ⟨c, a0, a1, a2, a3, a4, a5⟩ = 0 := if_neg hz
    generalize S.check ⟨c, a0, a1, a2, a3, a4, a5⟩ = z at *
    go_wp2_with fail
    go_ret
    exact ⟨by rw [hv]; rfl, x0⟩
  case' pos =>
    have hv : S.load ⟨c, a0, a1, a2, a3, a4, a5⟩ = Int.tdiv (psum a0 a1 a2 a3 a4 a5 6 * 100) c := if_pos hz
    obtain ⟨⟨h0, h1, h2, h3, h4, h5⟩, hc, hs0, hs1⟩ := may hz
    have H0 := Lib.hid h0
    have H1 := Lib.hid h1
    have H2 := Lib.hid h2
    have H3 := Lib.hid h3
    have H4 := Lib.hid h4
    have H5 := Lib.hid h5
    have HV := Lib.hid hv
    clear h0 h1 h2 h3 h4 h5 hv
    rw [hz]
    clear hz
    go_wp2_with fail
    refine region_held none [(0, true), (3, true), (4, true), (1, false), (2, true), (5, true)] [6] (by kernel_rfl) (by kernel_rfl) (fun _ _ d _ _ h => by cases d <;> exact h) (fun W hW => ?_)
    simp only [pick, pickF, List.getElem?_cons_zero, List.getElem?_cons_succ]
    have xW : Ext w W := by rw [hW]; exact x0.dr
    have d0 := (show Ext _ W by rw [hW]; exact Ext.drew _).cell_some c0
    have d1 := (show Ext _ W by rw [hW]; exact Ext.drew _).cell_some c1
    have d2 := (show Ext _ W by rw [hW]; exact Ext.drew _).cell_some c2
    have d3 := (show Ext _ W by rw [hW]; exact Ext.drew _).cell_some c3
    have d4 := (show Ext _ W by rw [hW]; exact Ext.drew _).cell_some c4
    have d5 := (show Ext _ W by rw [hW]; exact Ext.drew _).cell_some c5
    have d6 := (show Ext _ W by rw [hW]; exact Ext.drew _).cell_some c6
    clear hW c0 c1 c2 c3 c4 c5 c6 x0
    have q0 : ∀ w1, Gr none W w1 → w1.cell? _ = _ := fun w1 h => h.cell_some d0 (by simp)
    have q1 : ∀ w1, Gr none W w1 → w1.cell? _ = _ := fun w1 h => h.cell_some d1 (by simp)
    have q2 : ∀ w1, Gr none W w1 → w1.cell? _ = _ := fun w1 h => h.cell_some d2 (by simp)
    have q3 : ∀ w1, Gr none W w1 → w1.cell? _ = _ := fun w1 h => h.cell_some d3 (by simp)
    have q4 : ∀ w1, Gr none W w1 → w1.cell? _ = _ := fun w1 h => h.cell_some d4 (by simp)
    have q5 : ∀ w1, Gr none W w1 → w1.cell? _ = _ := fun w1 h => h.cell_some d5 (by simp)
    have q6 : ∀ w1, Gr none W w1 → w1.cell? _ = _ := fun w1 h => h.cell_some d6 (by simp)
    have hgr := Gr.refl none W
    iterate 3
      refine held_yes hgr _ rfl (fun w1 hw1 => by unfold Oper.quietAt; go_simp; rfl) ?_
      simp only [Act.put, List.setIfInBounds_toArray, List.set_cons_zero, List.set_cons_succ]
    refine held_step rfl (fun K hK => ?_)
    go_simp
    refine (rsum_any W c a0 a1 a2 a3 a4 a5 H0.out H1.out H2.out H3.out H4.out H5.out).mono ?_
    rintro e w2 ⟨rfl, x2⟩
    generalize psum a0 a1 a2 a3 a4 a5 6 = s at *
    refine hK _ _ (x2.gr _) ?_
    clear hK K
    refine held_yes (x2.gr _) (.int .i64 (s * 100)) rfl (fun w1 hw1 => by unfold Oper.quietAt; go_simp; first | exact IntWalk.i64_in _ (by omega) | (rw [IntWalk.i64_in _ (by omega)]; omega)) ?_
    simp only [Act.put, List.setIfInBounds_toArray, List.set_cons_zero, List.set_cons_succ]
    have hc0 : c ≠ 0 := by omega
    refine held_yes (x2.gr _) (.int .i64 (Int.tdiv (s * 100) c)) rfl (fun w1 hw1 => by unfold Oper.quietAt; go_simp; exact IntWalk.i64_in _ (quo_bounds s c (by omega) (by omega))) ?_
    simp only [Act.put, List.setIfInBounds_toArray, List.set_cons_zero, List.set_cons_succ]
    refine held_nil ?_
    go_wp2_with fail
    go_ret
    exact ⟨by rw [HV.out]; rfl, xW.trans x2⟩

set_option maxHeartbeats 400000 in
theorem new_any (w : World) (n : Int) : Calls Try.prog 16 #[.int .i64 n] w fun e w' => e = .returned (.tuple #[stV (if 1 ≤ n ∧ n ≤ 4096 then n else 0) 0 0 0 0 0 0, .int .i64 (if 1 ≤ n ∧ n ≤ 4096 then 0 else 8)]) ∧ Ext w w' := by
  by_cases h : 1 ≤ n ∧ n ≤ 4096
  · rw [if_pos h, if_pos h]
    have hi : inB n 1 4096 = true := by simp [inB, h]
    go_enter Try.func16, Try.ntmps16
    go_wp2_with fail
    refine (in_any _ _ _ _).mono ?_
    rintro e w1 ⟨rfl, rfl⟩
    rw [hi]
    go_wp2_with fail
    exact bodyPost_ret (v := .tuple #[stV n 0 0 0 0 0 0, .int .i64 0]) (by simp [results, Try.results16, go_sem]) rfl ⟨rfl, Ext.alloc _ _⟩
  · rw [if_neg h, if_neg h]
    have hi : inB n 1 4096 = false := by simp [inB]; omega
    go_enter Try.func16, Try.ntmps16
    go_wp2_with fail
    refine (in_any _ _ _ _).mono ?_
    rintro e w1 ⟨rfl, rfl⟩
    rw [hi]
    go_wp2_with fail
    exact bodyPost_ret (v := .tuple #[stV 0 0 0 0 0 0 0, .int .i64 8]) (by simp [results, Try.results16, go_sem]) rfl ⟨rfl, Ext.alloc _ _⟩

set_option maxHeartbeats 400000 in
theorem rnew_any (w : World) (n : Int) : Calls Try.prog 17 #[.int .i64 n] w fun e w' => e = .returned (.tuple #[stV (if 1 ≤ n ∧ n ≤ 4096 then n else 0) 0 0 0 0 0 0, .int .i64 (if 1 ≤ n ∧ n ≤ 4096 then 0 else 8)]) ∧ Ext w w' := by
  by_cases h : 1 ≤ n ∧ n ≤ 4096
  · rw [if_pos h, if_pos h]
    have hi : inB n 1 4096 = true := by simp [inB, h]
    go_enter Try.func17, Try.ntmps17
    go_wp2_with fail
    refine (rin_any _ _ _ _).mono ?_
    rintro e w1 ⟨rfl, rfl⟩
    rw [hi]
    go_wp2_with fail
    exact bodyPost_ret (v := .tuple #[stV n 0 0 0 0 0 0, .int .i64 0]) (by simp [results, Try.results17, go_sem]) rfl ⟨rfl, Ext.alloc _ _⟩
  · rw [if_neg h, if_neg h]
    have hi : inB n 1 4096 = false := by simp [inB]; omega
    go_enter Try.func17, Try.ntmps17
    go_wp2_with fail
    refine (rin_any _ _ _ _).mono ?_
    rintro e w1 ⟨rfl, rfl⟩
    rw [hi]
    go_wp2_with fail
    exact bodyPost_ret (v := .tuple #[stV 0 0 0 0 0 0 0, .int .i64 8]) (by simp [results, Try.results17, go_sem]) rfl ⟨rfl, Ext.alloc _ _⟩

end Go.Proofs.Ytnldfglgdchinaa
