/- The document's sum, and whether it says that a state may be. -/
import Derived.Test.YtnldfglgdchinaaB
namespace Go.Proofs.Ytnldfglgdchinaa
set_option linter.unusedSimpArgs false
set_option linter.unusedVariables false
open Go.RowKit

set_option maxRecDepth 100000 in
set_option maxHeartbeats 2000000 in
theorem rsum_any (w : World) (c a0 a1 a2 a3 a4 a5 : Int) (h0 : okN a0) (h1 : okN a1) (h2 : okN a2) (h3 : okN a3) (h4 : okN a4) (h5 : okN a5) :
    Calls Try.prog 31 #[stV c a0 a1 a2 a3 a4 a5] w fun e w' => e = .returned (.int .i64 (psum a0 a1 a2 a3 a4 a5 6)) ∧ Ext w w' := by
  have h0 := ok_bound h0
  have h1 := ok_bound h1
  have h2 := ok_bound h2
  have h3 := ok_bound h3
  have h4 := ok_bound h4
  have h5 := ok_bound h5
  go_enter Try.func31, Try.ntmps31
  go_wp2_with fail
  obtain ⟨w0, hw0⟩ : ∃ w0, w0 = w.alloc (.cells #[.int .i64 c, .int .i64 a0, .int .i64 a1, .int .i64 a2, .int .i64 a3, .int .i64 a4, .int .i64 a5] 24) := ⟨_, rfl⟩
  rw [← hw0]
  have x0 : Ext w w0 := hw0 ▸ Ext.alloc _ _
  have c0 : w0.cell? ⟨w.heap.size, 0, none⟩ = some (.int .i64 c) := by rw [hw0]; go_simp
  have c1 : w0.cell? ⟨w.heap.size, 1, none⟩ = some (.int .i64 a0) := by rw [hw0]; go_simp
  have c2 : w0.cell? ⟨w.heap.size, 2, none⟩ = some (.int .i64 a1) := by rw [hw0]; go_simp
  have c3 : w0.cell? ⟨w.heap.size, 3, none⟩ = some (.int .i64 a2) := by rw [hw0]; go_simp
  have c4 : w0.cell? ⟨w.heap.size, 4, none⟩ = some (.int .i64 a3) := by rw [hw0]; go_simp
  have c5 : w0.cell? ⟨w.heap.size, 5, none⟩ = some (.int .i64 a4) := by rw [hw0]; go_simp
  have c6 : w0.cell? ⟨w.heap.size, 6, none⟩ = some (.int .i64 a5) := by rw [hw0]; go_simp
  clear hw0
  go_loopw [3, 4] (fun n i wr => ∃ k : Nat, n = .int .i64 (psum a0 a1 a2 a3 a4 a5 k) ∧ i = .int .i64 k ∧ k ≤ 6 ∧ Ext w0 wr) (fun _ i _ => 6 - (intOf i).toNat)
  case atStart => exact ⟨0, rfl, rfl, by omega, Ext.refl _⟩
  case round =>
    obtain ⟨k, rfl, rfl, hk, hx⟩ := hrel
    have c0 := hx.cell_some c0
    have c1 := hx.cell_some c1
    have c2 := hx.cell_some c2
    have c3 := hx.cell_some c3
    have c4 := hx.cell_some c4
    have c5 := hx.cell_some c5
    have c6 := hx.cell_some c6
    rcases (by omega : k = 0 ∨ k = 1 ∨ k = 2 ∨ k = 3 ∨ k = 4 ∨ k = 5 ∨ k = 6) with rfl | rfl | rfl | rfl | rfl | rfl | rfl
    all_goals go_wp2_with fail
    · refine region_held none [(0, true), (1, true), (2, true), (3, true), (4, true), (5, true), (6, false), (7, true), (8, true)] [9] (by kernel_rfl) (by kernel_rfl) (fun _ _ d _ _ h => by cases d <;> exact h) (fun W hW => ?_)
      simp only [pick, pickF, List.getElem?_cons_zero, List.getElem?_cons_succ]
      have xW : Ext wr W := by rw [hW]; exact Ext.drew _
      have d0 := xW.cell_some c1
      clear hW c0 c1 c2 c3 c4 c5 c6
      have q : ∀ w1, Gr none W w1 → w1.cell? _ = _ := fun w1 h => h.cell_some d0 (by simp)
      have hgr := Gr.refl none W
      iterate 6
        refine held_yes hgr _ rfl (fun w1 hw1 => by unfold Oper.quietAt; go_simp; rfl) ?_
        simp only [Act.put, List.setIfInBounds_toArray, List.set_cons_zero, List.set_cons_succ]
      refine held_step rfl (fun K hK => ?_)
      go_simp
      refine (rcost_any _ _).mono ?_
      rintro e w2 ⟨rfl, x2⟩
      refine hK _ _ (x2.gr _) ?_
      clear hK K
      rw [show costI 0 = 8 from rfl]
      iterate 2
        refine held_yes (x2.gr _) _ rfl (fun w1 hw1 => by unfold Oper.quietAt; go_simp; rfl) ?_
        simp only [Act.put, List.setIfInBounds_toArray, List.set_cons_zero, List.set_cons_succ]
      refine held_nil ?_
      go_wp2_with fail
      refine ⟨⟨1, ?_, rfl, by omega, (hx.trans xW).trans x2⟩, by simp [intOf]⟩
      refine congrArg (Value.int .i64) ?_
      simp only [psum]
      rw [IntWalk.i64_in (a0 * 8) (by omega), IntWalk.i64_in _ (by omega)]
      try omega
    · refine region_held none [(0, true), (1, true), (2, true), (3, true), (4, true), (5, true), (6, false), (7, true), (8, true)] [9] (by kernel_rfl) (by kernel_rfl) (fun _ _ d _ _ h => by cases d <;> exact h) (fun W hW => ?_)
      simp only [pick, pickF, List.getElem?_cons_zero, List.getElem?_cons_succ]
      have xW : Ext wr W := by rw [hW]; exact Ext.drew _
      have d1 := xW.cell_some c2
      clear hW c0 c1 c2 c3 c4 c5 c6
      have q : ∀ w1, Gr none W w1 → w1.cell? _ = _ := fun w1 h => h.cell_some d1 (by simp)
      have hgr := Gr.refl none W
      iterate 6
        refine held_yes hgr _ rfl (fun w1 hw1 => by unfold Oper.quietAt; go_simp; rfl) ?_
        simp only [Act.put, List.setIfInBounds_toArray, List.set_cons_zero, List.set_cons_succ]
      refine held_step rfl (fun K hK => ?_)
      go_simp
      refine (rcost_any _ _).mono ?_
      rintro e w2 ⟨rfl, x2⟩
      refine hK _ _ (x2.gr _) ?_
      clear hK K
      rw [show costI 1 = 6 from rfl]
      iterate 2
        refine held_yes (x2.gr _) _ rfl (fun w1 hw1 => by unfold Oper.quietAt; go_simp; rfl) ?_
        simp only [Act.put, List.setIfInBounds_toArray, List.set_cons_zero, List.set_cons_succ]
      refine held_nil ?_
      go_wp2_with fail
      refine ⟨⟨2, ?_, rfl, by omega, (hx.trans xW).trans x2⟩, by simp [intOf]⟩
      refine congrArg (Value.int .i64) ?_
      simp only [psum]
      rw [IntWalk.i64_in (a1 * 6) (by omega), IntWalk.i64_in _ (by omega)]
      try omega
    · refine region_held none [(0, true), (1, true), (2, true), (3, true), (4, true), (5, true), (6, false), (7, true), (8, true)] [9] (by kernel_rfl) (by kernel_rfl) (fun _ _ d _ _ h => by cases d <;> exact h) (fun W hW => ?_)
      simp only [pick, pickF, List.getElem?_cons_zero, List.getElem?_cons_succ]
      have xW : Ext wr W := by rw [hW]; exact Ext.drew _
      have d2 := xW.cell_some c3
      clear hW c0 c1 c2 c3 c4 c5 c6
      have q : ∀ w1, Gr none W w1 → w1.cell? _ = _ := fun w1 h => h.cell_some d2 (by simp)
      have hgr := Gr.refl none W
      iterate 6
        refine held_yes hgr _ rfl (fun w1 hw1 => by unfold Oper.quietAt; go_simp; rfl) ?_
        simp only [Act.put, List.setIfInBounds_toArray, List.set_cons_zero, List.set_cons_succ]
      refine held_step rfl (fun K hK => ?_)
      go_simp
      refine (rcost_any _ _).mono ?_
      rintro e w2 ⟨rfl, x2⟩
      refine hK _ _ (x2.gr _) ?_
      clear hK K
      rw [show costI 2 = 4 from rfl]
      iterate 2
        refine held_yes (x2.gr _) _ rfl (fun w1 hw1 => by unfold Oper.quietAt; go_simp; rfl) ?_
        simp only [Act.put, List.setIfInBounds_toArray, List.set_cons_zero, List.set_cons_succ]
      refine held_nil ?_
      go_wp2_with fail
      refine ⟨⟨3, ?_, rfl, by omega, (hx.trans xW).trans x2⟩, by simp [intOf]⟩
      refine congrArg (Value.int .i64) ?_
      simp only [psum]
      rw [IntWalk.i64_in (a2 * 4) (by omega), IntWalk.i64_in _ (by omega)]
      try omega
    · refine region_held none [(0, true), (1, true), (2, true), (3, true), (4, true), (5, true), (6, false), (7, true), (8, true)] [9] (by kernel_rfl) (by kernel_rfl) (fun _ _ d _ _ h => by cases d <;> exact h) (fun W hW => ?_)
      simp only [pick, pickF, List.getElem?_cons_zero, List.getElem?_cons_succ]
      have xW : Ext wr W := by rw [hW]; exact Ext.drew _
      have d3 := xW.cell_some c4
      clear hW c0 c1 c2 c3 c4 c5 c6
      have q : ∀ w1, Gr none W w1 → w1.cell? _ = _ := fun w1 h => h.cell_some d3 (by simp)
      have hgr := Gr.refl none W
      iterate 6
        refine held_yes hgr _ rfl (fun w1 hw1 => by unfold Oper.quietAt; go_simp; rfl) ?_
        simp only [Act.put, List.setIfInBounds_toArray, List.set_cons_zero, List.set_cons_succ]
      refine held_step rfl (fun K hK => ?_)
      go_simp
      refine (rcost_any _ _).mono ?_
      rintro e w2 ⟨rfl, x2⟩
      refine hK _ _ (x2.gr _) ?_
      clear hK K
      rw [show costI 3 = 3 from rfl]
      iterate 2
        refine held_yes (x2.gr _) _ rfl (fun w1 hw1 => by unfold Oper.quietAt; go_simp; rfl) ?_
        simp only [Act.put, List.setIfInBounds_toArray, List.set_cons_zero, List.set_cons_succ]
      refine held_nil ?_
      go_wp2_with fail
      refine ⟨⟨4, ?_, rfl, by omega, (hx.trans xW).trans x2⟩, by simp [intOf]⟩
      refine congrArg (Value.int .i64) ?_
      simp only [psum]
      rw [IntWalk.i64_in (a3 * 3) (by omega), IntWalk.i64_in _ (by omega)]
      try omega
    · refine region_held none [(0, true), (1, true), (2, true), (3, true), (4, true), (5, true), (6, false), (7, true), (8, true)] [9] (by kernel_rfl) (by kernel_rfl) (fun _ _ d _ _ h => by cases d <;> exact h) (fun W hW => ?_)
      simp only [pick, pickF, List.getElem?_cons_zero, List.getElem?_cons_succ]
      have xW : Ext wr W := by rw [hW]; exact Ext.drew _
      have d4 := xW.cell_some c5
      clear hW c0 c1 c2 c3 c4 c5 c6
      have q : ∀ w1, Gr none W w1 → w1.cell? _ = _ := fun w1 h => h.cell_some d4 (by simp)
      have hgr := Gr.refl none W
      iterate 6
        refine held_yes hgr _ rfl (fun w1 hw1 => by unfold Oper.quietAt; go_simp; rfl) ?_
        simp only [Act.put, List.setIfInBounds_toArray, List.set_cons_zero, List.set_cons_succ]
      refine held_step rfl (fun K hK => ?_)
      go_simp
      refine (rcost_any _ _).mono ?_
      rintro e w2 ⟨rfl, x2⟩
      refine hK _ _ (x2.gr _) ?_
      clear hK K
      rw [show costI 4 = 2 from rfl]
      iterate 2
        refine held_yes (x2.gr _) _ rfl (fun w1 hw1 => by unfold Oper.quietAt; go_simp; rfl) ?_
        simp only [Act.put, List.setIfInBounds_toArray, List.set_cons_zero, List.set_cons_succ]
      refine held_nil ?_
      go_wp2_with fail
      refine ⟨⟨5, ?_, rfl, by omega, (hx.trans xW).trans x2⟩, by simp [intOf]⟩
      refine congrArg (Value.int .i64) ?_
      simp only [psum]
      rw [IntWalk.i64_in (a4 * 2) (by omega), IntWalk.i64_in _ (by omega)]
      try omega
    · refine region_held none [(0, true), (1, true), (2, true), (3, true), (4, true), (5, true), (6, false), (7, true), (8, true)] [9] (by kernel_rfl) (by kernel_rfl) (fun _ _ d _ _ h => by cases d <;> exact h) (fun W hW => ?_)
      simp only [pick, pickF, List.getElem?_cons_zero, List.getElem?_cons_succ]
      have xW : Ext wr W := by rw [hW]; exact Ext.drew _
      have d5 := xW.cell_some c6
      clear hW c0 c1 c2 c3 c4 c5 c6
      have q : ∀ w1, Gr none W w1 → w1.cell? _ = _ := fun w1 h => h.cell_some d5 (by simp)
      have hgr := Gr.refl none W
      iterate 6
        refine held_yes hgr _ rfl (fun w1 hw1 => by unfold Oper.quietAt; go_simp; rfl) ?_
        simp only [Act.put, List.setIfInBounds_toArray, List.set_cons_zero, List.set_cons_succ]
      refine held_step rfl (fun K hK => ?_)
      go_simp
      refine (rcost_any _ _).mono ?_
      rintro e w2 ⟨rfl, x2⟩
      refine hK _ _ (x2.gr _) ?_
      clear hK K
      rw [show costI 5 = 1 from rfl]
      iterate 2
        refine held_yes (x2.gr _) _ rfl (fun w1 hw1 => by unfold Oper.quietAt; go_simp; rfl) ?_
        simp only [Act.put, List.setIfInBounds_toArray, List.set_cons_zero, List.set_cons_succ]
      refine held_nil ?_
      go_wp2_with fail
      refine ⟨⟨6, ?_, rfl, by omega, (hx.trans xW).trans x2⟩, by simp [intOf]⟩
      refine congrArg (Value.int .i64) ?_
      simp only [psum]
      rw [IntWalk.i64_in (a5) (by omega), IntWalk.i64_in _ (by omega)]
      try omega
    · go_ret
      exact ⟨rfl, x0.trans hx⟩

set_option maxRecDepth 100000 in
set_option maxHeartbeats 2000000 in
theorem rcheck_any (w : World) (c a0 a1 a2 a3 a4 a5 : Int) :
    Calls Try.prog 19 #[stV c a0 a1 a2 a3 a4 a5] w fun e w' => e = .returned (.int .i64 (S.check ⟨c, a0, a1, a2, a3, a4, a5⟩)) ∧ Ext w w' := by
  go_enter Try.func19, Try.ntmps19
  go_wp2_with fail
  obtain ⟨w0, hw0⟩ : ∃ w0, w0 = w.alloc (.cells #[.int .i64 c, .int .i64 a0, .int .i64 a1, .int .i64 a2, .int .i64 a3, .int .i64 a4, .int .i64 a5] 24) := ⟨_, rfl⟩
  rw [← hw0]
  have x0 : Ext w w0 := hw0 ▸ Ext.alloc _ _
  have c0 : w0.cell? ⟨w.heap.size, 0, none⟩ = some (.int .i64 c) := by rw [hw0]; go_simp
  have c1 : w0.cell? ⟨w.heap.size, 1, none⟩ = some (.int .i64 a0) := by rw [hw0]; go_simp
  have c2 : w0.cell? ⟨w.heap.size, 2, none⟩ = some (.int .i64 a1) := by rw [hw0]; go_simp
  have c3 : w0.cell? ⟨w.heap.size, 3, none⟩ = some (.int .i64 a2) := by rw [hw0]; go_simp
  have c4 : w0.cell? ⟨w.heap.size, 4, none⟩ = some (.int .i64 a3) := by rw [hw0]; go_simp
  have c5 : w0.cell? ⟨w.heap.size, 5, none⟩ = some (.int .i64 a4) := by rw [hw0]; go_simp
  have c6 : w0.cell? ⟨w.heap.size, 6, none⟩ = some (.int .i64 a5) := by rw [hw0]; go_simp
  clear hw0
  refine (rin_any _ _ _ _).mono ?_
  rintro e w1 ⟨rfl, hw⟩
  rw [hw]
  clear hw w1
  have hb : inB c 1 4096 = true ↔ 1 ≤ c ∧ c ≤ 4096 := by simp [inB]
  generalize inB c 1 4096 = b0 at hb
  go_wp2_with fail
  go_loopw [3, 4] (fun t i wr => ∃ (k : Nat) (b : Bool), t = .bool b ∧ i = .int .i64 k ∧ k ≤ 6 ∧ (b = true ↔ (1 ≤ c ∧ c ≤ 4096) ∧ ∀ j, j < k → okN (nth a0 a1 a2 a3 a4 a5 j)) ∧ wr = w0) (fun _ i _ => 6 - (intOf i).toNat)
  case atStart => exact ⟨0, b0, rfl, rfl, by omega, ⟨fun h => ⟨hb.1 h, fun j hj => by omega⟩, fun h => hb.2 h.1⟩, rfl⟩
  case round =>
    clear hb
    obtain ⟨k, b, rfl, rfl, hk, hb, rfl⟩ := hrel
    rcases (by omega : k = 0 ∨ k = 1 ∨ k = 2 ∨ k = 3 ∨ k = 4 ∨ k = 5 ∨ k = 6) with rfl | rfl | rfl | rfl | rfl | rfl | rfl
    all_goals
      have HB := Lib.hid hb
      clear hb
      cases b
    all_goals go_wp2_with fail
    · refine ⟨⟨1, false, rfl, rfl, by omega, ⟨fun h => (by cases h), fun h => HB.out.2 ⟨h.1, fun j hj => h.2 j (by omega)⟩⟩, trivial⟩, by simp [intOf]⟩
    · refine (rin_any _ _ _ _).mono ?_
      rintro e w1 ⟨rfl, rfl⟩
      have hb := HB.out.1 (by first | rfl | trivial)
      have HB2 := Lib.hid hb
      clear hb
      by_cases hn : okN a0
      · rw [inB_ok hn]
        go_wp2_with fail
        have hb := HB2.out
        refine ⟨⟨1, true, rfl, rfl, by omega, ⟨fun _ => ⟨hb.1, fun j hj' => ?_⟩, fun _ => rfl⟩, trivial⟩, by simp [intOf]⟩
        rcases (by omega : j < 0 ∨ j = 0) with h | rfl
        · exact hb.2 j h
        · exact hn
      · rw [inB_no hn]
        go_wp2_with fail
        refine ⟨⟨1, false, rfl, rfl, by omega, ⟨fun h => (by cases h), fun h => absurd (h.2 0 (by omega)) hn⟩, trivial⟩, by simp [intOf]⟩
    · refine ⟨⟨2, false, rfl, rfl, by omega, ⟨fun h => (by cases h), fun h => HB.out.2 ⟨h.1, fun j hj => h.2 j (by omega)⟩⟩, trivial⟩, by simp [intOf]⟩
    · refine (rin_any _ _ _ _).mono ?_
      rintro e w1 ⟨rfl, rfl⟩
      have hb := HB.out.1 (by first | rfl | trivial)
      have HB2 := Lib.hid hb
      clear hb
      by_cases hn : okN a1
      · rw [inB_ok hn]
        go_wp2_with fail
        have hb := HB2.out
        refine ⟨⟨2, true, rfl, rfl, by omega, ⟨fun _ => ⟨hb.1, fun j hj' => ?_⟩, fun _ => rfl⟩, trivial⟩, by simp [intOf]⟩
        rcases (by omega : j < 1 ∨ j = 1) with h | rfl
        · exact hb.2 j h
        · exact hn
      · rw [inB_no hn]
        go_wp2_with fail
        refine ⟨⟨2, false, rfl, rfl, by omega, ⟨fun h => (by cases h), fun h => absurd (h.2 1 (by omega)) hn⟩, trivial⟩, by simp [intOf]⟩
    · refine ⟨⟨3, false, rfl, rfl, by omega, ⟨fun h => (by cases h), fun h => HB.out.2 ⟨h.1, fun j hj => h.2 j (by omega)⟩⟩, trivial⟩, by simp [intOf]⟩
    · refine (rin_any _ _ _ _).mono ?_
      rintro e w1 ⟨rfl, rfl⟩
      have hb := HB.out.1 (by first | rfl | trivial)
      have HB2 := Lib.hid hb
      clear hb
      by_cases hn : okN a2
      · rw [inB_ok hn]
        go_wp2_with fail
        have hb := HB2.out
        refine ⟨⟨3, true, rfl, rfl, by omega, ⟨fun _ => ⟨hb.1, fun j hj' => ?_⟩, fun _ => rfl⟩, trivial⟩, by simp [intOf]⟩
        rcases (by omega : j < 2 ∨ j = 2) with h | rfl
        · exact hb.2 j h
        · exact hn
      · rw [inB_no hn]
        go_wp2_with fail
        refine ⟨⟨3, false, rfl, rfl, by omega, ⟨fun h => (by cases h), fun h => absurd (h.2 2 (by omega)) hn⟩, trivial⟩, by simp [intOf]⟩
    · refine ⟨⟨4, false, rfl, rfl, by omega, ⟨fun h => (by cases h), fun h => HB.out.2 ⟨h.1, fun j hj => h.2 j (by omega)⟩⟩, trivial⟩, by simp [intOf]⟩
    · refine (rin_any _ _ _ _).mono ?_
      rintro e w1 ⟨rfl, rfl⟩
      have hb := HB.out.1 (by first | rfl | trivial)
      have HB2 := Lib.hid hb
      clear hb
      by_cases hn : okN a3
      · rw [inB_ok hn]
        go_wp2_with fail
        have hb := HB2.out
        refine ⟨⟨4, true, rfl, rfl, by omega, ⟨fun _ => ⟨hb.1, fun j hj' => ?_⟩, fun _ => rfl⟩, trivial⟩, by simp [intOf]⟩
        rcases (by omega : j < 3 ∨ j = 3) with h | rfl
        · exact hb.2 j h
        · exact hn
      · rw [inB_no hn]
        go_wp2_with fail
        refine ⟨⟨4, false, rfl, rfl, by omega, ⟨fun h => (by cases h), fun h => absurd (h.2 3 (by omega)) hn⟩, trivial⟩, by simp [intOf]⟩
    · refine ⟨⟨5, false, rfl, rfl, by omega, ⟨fun h => (by cases h), fun h => HB.out.2 ⟨h.1, fun j hj => h.2 j (by omega)⟩⟩, trivial⟩, by simp [intOf]⟩
    · refine (rin_any _ _ _ _).mono ?_
      rintro e w1 ⟨rfl, rfl⟩
      have hb := HB.out.1 (by first | rfl | trivial)
      have HB2 := Lib.hid hb
      clear hb
      by_cases hn : okN a4
      · rw [inB_ok hn]
        go_wp2_with fail
        have hb := HB2.out
        refine ⟨⟨5, true, rfl, rfl, by omega, ⟨fun _ => ⟨hb.1, fun j hj' => ?_⟩, fun _ => rfl⟩, trivial⟩, by simp [intOf]⟩
        rcases (by omega : j < 4 ∨ j = 4) with h | rfl
        · exact hb.2 j h
        · exact hn
      · rw [inB_no hn]
        go_wp2_with fail
        refine ⟨⟨5, false, rfl, rfl, by omega, ⟨fun h => (by cases h), fun h => absurd (h.2 4 (by omega)) hn⟩, trivial⟩, by simp [intOf]⟩
    · refine ⟨⟨6, false, rfl, rfl, by omega, ⟨fun h => (by cases h), fun h => HB.out.2 ⟨h.1, fun j hj => h.2 j (by omega)⟩⟩, trivial⟩, by simp [intOf]⟩
    · refine (rin_any _ _ _ _).mono ?_
      rintro e w1 ⟨rfl, rfl⟩
      have hb := HB.out.1 (by first | rfl | trivial)
      have HB2 := Lib.hid hb
      clear hb
      by_cases hn : okN a5
      · rw [inB_ok hn]
        go_wp2_with fail
        have hb := HB2.out
        refine ⟨⟨6, true, rfl, rfl, by omega, ⟨fun _ => ⟨hb.1, fun j hj' => ?_⟩, fun _ => rfl⟩, trivial⟩, by simp [intOf]⟩
        rcases (by omega : j < 5 ∨ j = 5) with h | rfl
        · exact hb.2 j h
        · exact hn
      · rw [inB_no hn]
        go_wp2_with fail
        refine ⟨⟨6, false, rfl, rfl, by omega, ⟨fun h => (by cases h), fun h => absurd (h.2 5 (by omega)) hn⟩, trivial⟩, by simp [intOf]⟩
    · go_ret
      refine ⟨?_, x0⟩
      have hne : ¬ (S.okMany ⟨c, a0, a1, a2, a3, a4, a5⟩ ∧ S.okCap ⟨c, a0, a1, a2, a3, a4, a5⟩) := fun h => by
        have := HB.out.2 ⟨h.2, fun j hj => by
          obtain ⟨⟨h0, h1, h2, h3, h4, h5⟩, _⟩ := h
          rcases (by omega : j = 0 ∨ j = 1 ∨ j = 2 ∨ j = 3 ∨ j = 4 ∨ j = 5) with rfl | rfl | rfl | rfl | rfl | rfl <;> assumption⟩
        cases this
      rw [S.check, if_neg hne]
      rfl
    · obtain ⟨hc, hj⟩ := HB.out.1 (by first | rfl | trivial)
      have hm : S.okMany ⟨c, a0, a1, a2, a3, a4, a5⟩ := ⟨hj 0 (by omega), hj 1 (by omega), hj 2 (by omega), hj 3 (by omega), hj 4 (by omega), hj 5 (by omega)⟩
      have b0 : okN a0 := hm.1
      have b1 : okN a1 := hm.2.1
      have b2 : okN a2 := hm.2.2.1
      have b3 : okN a3 := hm.2.2.2.1
      have b4 : okN a4 := hm.2.2.2.2.1
      have b5 : okN a5 := hm.2.2.2.2.2
      refine region_held none [(0, true), (2, true), (3, true), (1, false), (4, true)] [5] (by kernel_rfl) (by kernel_rfl) (fun _ _ d _ _ h => by cases d <;> exact h) (fun W hW => ?_)
      simp only [pick, pickF, List.getElem?_cons_zero, List.getElem?_cons_succ]
      have xW : Ext w W := by rw [hW]; exact x0.dr
      have d0 := (show Ext _ W by rw [hW]; exact Ext.drew _).cell_some c0
      have d1 := (show Ext _ W by rw [hW]; exact Ext.drew _).cell_some c1
      have d2 := (show Ext _ W by rw [hW]; exact Ext.drew _).cell_some c2
      have d3 := (show Ext _ W by rw [hW]; exact Ext.drew _).cell_some c3
      have d4 := (show Ext _ W by rw [hW]; exact Ext.drew _).cell_some c4
      have d5 := (show Ext _ W by rw [hW]; exact Ext.drew _).cell_some c5
      have d6 := (show Ext _ W by rw [hW]; exact Ext.drew _).cell_some c6
      clear hW c0 c1 c2 c3 c4 c5 c6 x0
      have q0 : ∀ w1, Gr none W w1 → w1.cell? _ = _ := fun w1 h => h.cell_some d0 (by simp)
      have q1 : ∀ w1, Gr none W w1 → w1.cell? _ = _ := fun w1 h => h.cell_some d1 (by simp)
      have q2 : ∀ w1, Gr none W w1 → w1.cell? _ = _ := fun w1 h => h.cell_some d2 (by simp)
      have q3 : ∀ w1, Gr none W w1 → w1.cell? _ = _ := fun w1 h => h.cell_some d3 (by simp)
      have q4 : ∀ w1, Gr none W w1 → w1.cell? _ = _ := fun w1 h => h.cell_some d4 (by simp)
      have q5 : ∀ w1, Gr none W w1 → w1.cell? _ = _ := fun w1 h => h.cell_some d5 (by simp)
      have q6 : ∀ w1, Gr none W w1 → w1.cell? _ = _ := fun w1 h => h.cell_some d6 (by simp)
      have hgr := Gr.refl none W
      iterate 3
        refine held_yes hgr _ rfl (fun w1 hw1 => by unfold Oper.quietAt; go_simp; rfl) ?_
        simp only [Act.put, List.setIfInBounds_toArray, List.set_cons_zero, List.set_cons_succ]
      refine held_step rfl (fun K hK => ?_)
      go_simp
      refine (rsum_any W c a0 a1 a2 a3 a4 a5 b0 b1 b2 b3 b4 b5).mono ?_
      rintro e w2 ⟨rfl, x2⟩
      refine hK _ _ (x2.gr _) ?_
      clear hK K
      by_cases hs : c < psum a0 a1 a2 a3 a4 a5 6
      all_goals
        iterate 1
          refine held_yes (x2.gr _) _ rfl (fun w1 hw1 => by unfold Oper.quietAt; go_simp; rfl) ?_
          simp only [Act.put, List.setIfInBounds_toArray, List.set_cons_zero, List.set_cons_succ]
        refine held_nil ?_
        go_wp2_with fail
        go_ret
      · exact ⟨by rw [check_full ⟨c, a0, a1, a2, a3, a4, a5⟩ hm hc hs]; rfl, xW.trans x2⟩
      · exact ⟨by rw [check_ok ⟨c, a0, a1, a2, a3, a4, a5⟩ hm hc hs]; rfl, xW.trans x2⟩

end Go.Proofs.Ytnldfglgdchinaa
