/- Whether any state may be, and what it has charged, is told as the document says. -/
import Derived.Test.YtnldfglgdchinaaM
namespace Go.Proofs.Ytnldfglgdchinaa
set_option linter.unusedSimpArgs false
set_option linter.unusedVariables false
open Go.RowKit

theorem Box.seen {w w1 : World} {b : Nat} {s : S} (h : Box w b s) (x : Gr none w w1) : w1.cell? ⟨b, 0, none⟩ = some (.int .i64 s.c) ∧ w1.cell? ⟨b, 1, none⟩ = some (.int .i64 s.a0) ∧ w1.cell? ⟨b, 2, none⟩ = some (.int .i64 s.a1) ∧ w1.cell? ⟨b, 3, none⟩ = some (.int .i64 s.a2) ∧ w1.cell? ⟨b, 4, none⟩ = some (.int .i64 s.a3) ∧ w1.cell? ⟨b, 5, none⟩ = some (.int .i64 s.a4) ∧ w1.cell? ⟨b, 6, none⟩ = some (.int .i64 s.a5) := by
  obtain ⟨c0, c1, c2, c3, c4, c5, c6⟩ := h.cells
  exact ⟨x.cell_some c0 (by simp), x.cell_some c1 (by simp), x.cell_some c2 (by simp), x.cell_some c3 (by simp), x.cell_some c4 (by simp), x.cell_some c5 (by simp), x.cell_some c6 (by simp)⟩

set_option maxRecDepth 100000 in
set_option maxHeartbeats 20000000 in
theorem tells_walk (w : World) (c a0 a1 a2 a3 a4 a5 n : Int) : Calls Try.prog 4 #[stV c a0 a1 a2 a3 a4 a5, .int .i64 n] w fun e w' => e = .returned (.bool true) ∧ Ext w w' := by
  obtain ⟨m, hm⟩ : ∃ m : Int, m = if 1 ≤ n ∧ n ≤ 4096 then n else 0 := ⟨_, rfl⟩
  obtain ⟨f, hf⟩ : ∃ f : Int, f = if 1 ≤ n ∧ n ≤ 4096 then 0 else 8 := ⟨_, rfl⟩
  have N1 : Hid (∀ w, Calls Try.prog 16 #[.int .i64 n] w fun x w' => x = .returned (.tuple #[stV m 0 0 0 0 0 0, .int .i64 f]) ∧ Ext w w') := Lib.hid (by intro w; rw [hm, hf]; exact new_any w n)
  have N2 : Hid (∀ w, Calls Try.prog 17 #[.int .i64 n] w fun x w' => x = .returned (.tuple #[stV m 0 0 0 0 0 0, .int .i64 f]) ∧ Ext w w') := Lib.hid (by intro w; rw [hm, hf]; exact rnew_any w n)
  clear hm hf
  go_enter Try.func4, Try.ntmps4
  go_wp2_with fail
  obtain ⟨w0, hw0⟩ : ∃ w0, w0 = (w.alloc (.cells #[.int .i64 c, .int .i64 a0, .int .i64 a1, .int .i64 a2, .int .i64 a3, .int .i64 a4, .int .i64 a5] 24)).alloc (.cells #[.int .i64 c, .int .i64 a0, .int .i64 a1, .int .i64 a2, .int .i64 a3, .int .i64 a4, .int .i64 a5] 26) := ⟨_, rfl⟩
  rw [← hw0]
  have x0 : Ext w w0 := hw0 ▸ (Ext.alloc _ _).al _
  have B2 : Hid (Box w0 w.heap.size ⟨c, a0, a1, a2, a3, a4, a5⟩) := Lib.hid (hw0 ▸ (Box.new w 24 c a0 a1 a2 a3 a4 a5).ext (Ext.alloc _ _))
  have B5 : Hid (Box w0 (w.heap.size + 1) ⟨c, a0, a1, a2, a3, a4, a5⟩) := Lib.hid (hw0 ▸ by simpa using Box.new (w.alloc (.cells #[.int .i64 c, .int .i64 a0, .int .i64 a1, .int .i64 a2, .int .i64 a3, .int .i64 a4, .int .i64 a5] 24)) 26 c a0 a1 a2 a3 a4 a5)
  clear hw0
  refine (N1.out _).mono ?_
  rintro e w1 ⟨rfl, x1⟩
  have B2 := Lib.hid (B2.out.ext x1)
  have B5 := Lib.hid (B5.out.ext x1)
  have x0 := x0.trans x1
  clear x1
  go_wp2_with fail
  obtain ⟨v1, hv1⟩ : ∃ v, v = w1.alloc (.cells #[.int .i64 m, .int .i64 0, .int .i64 0, .int .i64 0, .int .i64 0, .int .i64 0, .int .i64 0] 26) := ⟨_, rfl⟩
  rw [← hv1]
  have B2 : Hid (Box v1 _ _) := Lib.hid (B2.out.ext (hv1 ▸ Ext.alloc w1 _))
  have B5 : Hid (Box v1 _ _) := Lib.hid (B5.out.ext (hv1 ▸ Ext.alloc w1 _))
  have B6 : Hid (Box v1 w1.heap.size ⟨m, 0, 0, 0, 0, 0, 0⟩) := Lib.hid (hv1 ▸ Box.new w1 26 m 0 0 0 0 0 0)
  have x0 : Ext w v1 := hv1 ▸ x0.al _
  clear hv1
  refine (N2.out _).mono ?_
  rintro e w2 ⟨rfl, x1⟩
  have B2 := Lib.hid (B2.out.ext x1)
  have B5 := Lib.hid (B5.out.ext x1)
  have B6 := Lib.hid (B6.out.ext x1)
  have x0 := x0.trans x1
  clear x1
  go_wp2_with fail

  refine region_held none [(0, true), (2, true), (1, false), (3, false), (4, true), (5, true), (6, true), (8, true), (7, false), (9, false), (10, true), (11, true), (12, true), (13, true), (15, true), (14, false), (16, false), (17, true), (18, true), (19, true), (20, true), (22, true), (21, false), (23, false), (24, true), (25, true), (26, true), (27, true), (29, true), (28, false), (30, false), (31, true), (32, true), (33, true), (34, true), (35, true), (36, true), (37, true), (38, true), (39, true), (40, true), (41, true), (42, true), (43, true), (44, false), (45, true)] [46] (by kernel_rfl) (by kernel_rfl) (fun _ _ d _ _ h => by cases d <;> exact h) (fun W hW => ?_)
  simp only [pick, pickF, List.getElem?_cons_zero, List.getElem?_cons_succ]
  have xW : Ext w2 W := by rw [hW]; exact (Ext.alloc w2 (.cells #[.int .i64 m, .int .i64 0, .int .i64 0, .int .i64 0, .int .i64 0, .int .i64 0, .int .i64 0] 24)).dr
  have B8 : Hid (Box W w2.heap.size ⟨m, 0, 0, 0, 0, 0, 0⟩) := Lib.hid (by rw [hW]; exact (Box.new w2 24 m 0 0 0 0 0 0).ext (Ext.drew _))
  have B2 : Hid (Box W _ _) := Lib.hid (B2.out.ext xW)
  have B5 : Hid (Box W _ _) := Lib.hid (B5.out.ext xW)
  have B6 : Hid (Box W _ _) := Lib.hid (B6.out.ext xW)
  have x0 := x0.trans xW
  clear hW xW
  have xe := Ext.refl W
  refine held_yes (xe.gr _) _ rfl (fun w1 hw1 => by obtain ⟨c0, c1, c2, c3, c4, c5, c6⟩ := B5.out.seen hw1; unfold Oper.quietAt; go_simp; rfl) ?_
  simp only [Act.put, List.setIfInBounds_toArray, List.set_cons_zero, List.set_cons_succ]
  refine held_yes (xe.gr _) _ rfl (fun w1 hw1 => by obtain ⟨c0, c1, c2, c3, c4, c5, c6⟩ := B2.out.seen hw1; unfold Oper.quietAt; go_simp; rfl) ?_
  simp only [Act.put, List.setIfInBounds_toArray, List.set_cons_zero, List.set_cons_succ]
  refine held_step rfl (fun K hK => ?_)
  go_simp
  refine (check_any _ c a0 a1 a2 a3 a4 a5).mono ?_
  rintro e w2 ⟨rfl, x2⟩
  have xe := xe.trans x2
  refine hK _ _ (xe.gr _) ?_
  clear hK K x2
  refine held_step rfl (fun K hK => ?_)
  go_simp
  refine (rcheck_any _ c a0 a1 a2 a3 a4 a5).mono ?_
  rintro e w2 ⟨rfl, x2⟩
  have xe := xe.trans x2
  refine hK _ _ (xe.gr _) ?_
  clear hK K x2
  refine held_yes (xe.gr _) _ rfl (fun w1 hw1 => by unfold Oper.quietAt; go_simp; rfl) ?_
  simp only [Act.put, List.setIfInBounds_toArray, List.set_cons_zero, List.set_cons_succ]
  refine held_yes (xe.gr _) _ rfl (fun w1 hw1 => by unfold Oper.quietAt; go_simp; rfl) ?_
  simp only [Act.put, List.setIfInBounds_toArray, List.set_cons_zero, List.set_cons_succ]
  refine held_yesG (xe.gr _) _ rfl (fun w1 hw1 => by obtain ⟨c0, c1, c2, c3, c4, c5, c6⟩ := B5.out.seen hw1; unfold Oper.quietAt; go_simp; rfl) ?_
  simp only [Act.put, List.setIfInBounds_toArray, List.set_cons_zero, List.set_cons_succ]
  refine held_yesG (xe.gr _) _ rfl (fun w1 hw1 => by obtain ⟨c0, c1, c2, c3, c4, c5, c6⟩ := B2.out.seen hw1; unfold Oper.quietAt; go_simp; rfl) ?_
  simp only [Act.put, List.setIfInBounds_toArray, List.set_cons_zero, List.set_cons_succ]
  refine held_stepG rfl (fun K hK => ?_)
  go_simp
  refine (total_any _ c a0 a1 a2 a3 a4 a5).mono ?_
  rintro e w2 ⟨rfl, x2⟩
  have xe := xe.trans x2
  refine hK _ _ (xe.gr _) ?_
  clear hK K x2
  refine held_stepG rfl (fun K hK => ?_)
  go_simp
  refine (rtotal_any _ c a0 a1 a2 a3 a4 a5).mono ?_
  rintro e w2 ⟨rfl, x2⟩
  have xe := xe.trans x2
  refine hK _ _ (xe.gr _) ?_
  clear hK K x2
  refine held_yesG (xe.gr _) _ rfl (fun w1 hw1 => by unfold Oper.quietAt; go_simp; rfl) ?_
  simp only [Act.put, List.setIfInBounds_toArray, List.set_cons_zero, List.set_cons_succ]
  refine held_yes (xe.gr _) _ rfl (fun w1 hw1 => by unfold Oper.quietAt; go_simp; rfl) ?_
  simp only [Act.put, List.setIfInBounds_toArray, List.set_cons_zero, List.set_cons_succ]
  refine held_yes (xe.gr _) _ rfl (fun w1 hw1 => by unfold Oper.quietAt; go_simp; rfl) ?_
  simp only [Act.put, List.setIfInBounds_toArray, List.set_cons_zero, List.set_cons_succ]
  refine held_yesG (xe.gr _) _ rfl (fun w1 hw1 => by obtain ⟨c0, c1, c2, c3, c4, c5, c6⟩ := B5.out.seen hw1; unfold Oper.quietAt; go_simp; rfl) ?_
  simp only [Act.put, List.setIfInBounds_toArray, List.set_cons_zero, List.set_cons_succ]
  refine held_yesG (xe.gr _) _ rfl (fun w1 hw1 => by obtain ⟨c0, c1, c2, c3, c4, c5, c6⟩ := B2.out.seen hw1; unfold Oper.quietAt; go_simp; rfl) ?_
  simp only [Act.put, List.setIfInBounds_toArray, List.set_cons_zero, List.set_cons_succ]
  refine held_stepG rfl (fun K hK => ?_)
  go_simp
  refine (left_any _ c a0 a1 a2 a3 a4 a5).mono ?_
  rintro e w2 ⟨rfl, x2⟩
  have xe := xe.trans x2
  refine hK _ _ (xe.gr _) ?_
  clear hK K x2
  refine held_stepG rfl (fun K hK => ?_)
  go_simp
  refine (rleft_any _ c a0 a1 a2 a3 a4 a5).mono ?_
  rintro e w2 ⟨rfl, x2⟩
  have xe := xe.trans x2
  refine hK _ _ (xe.gr _) ?_
  clear hK K x2
  refine held_yesG (xe.gr _) _ rfl (fun w1 hw1 => by unfold Oper.quietAt; go_simp; rfl) ?_
  simp only [Act.put, List.setIfInBounds_toArray, List.set_cons_zero, List.set_cons_succ]
  refine held_yes (xe.gr _) _ rfl (fun w1 hw1 => by unfold Oper.quietAt; go_simp; rfl) ?_
  simp only [Act.put, List.setIfInBounds_toArray, List.set_cons_zero, List.set_cons_succ]
  refine held_yes (xe.gr _) _ rfl (fun w1 hw1 => by unfold Oper.quietAt; go_simp; rfl) ?_
  simp only [Act.put, List.setIfInBounds_toArray, List.set_cons_zero, List.set_cons_succ]
  refine held_yesG (xe.gr _) _ rfl (fun w1 hw1 => by obtain ⟨c0, c1, c2, c3, c4, c5, c6⟩ := B5.out.seen hw1; unfold Oper.quietAt; go_simp; rfl) ?_
  simp only [Act.put, List.setIfInBounds_toArray, List.set_cons_zero, List.set_cons_succ]
  refine held_yesG (xe.gr _) _ rfl (fun w1 hw1 => by obtain ⟨c0, c1, c2, c3, c4, c5, c6⟩ := B2.out.seen hw1; unfold Oper.quietAt; go_simp; rfl) ?_
  simp only [Act.put, List.setIfInBounds_toArray, List.set_cons_zero, List.set_cons_succ]
  refine held_stepG rfl (fun K hK => ?_)
  go_simp
  refine (load_any _ c a0 a1 a2 a3 a4 a5).mono ?_
  rintro e w2 ⟨rfl, x2⟩
  have xe := xe.trans x2
  refine hK _ _ (xe.gr _) ?_
  clear hK K x2
  refine held_stepG rfl (fun K hK => ?_)
  go_simp
  refine (rload_any _ c a0 a1 a2 a3 a4 a5).mono ?_
  rintro e w2 ⟨rfl, x2⟩
  have xe := xe.trans x2
  refine hK _ _ (xe.gr _) ?_
  clear hK K x2
  refine held_yesG (xe.gr _) _ rfl (fun w1 hw1 => by unfold Oper.quietAt; go_simp; rfl) ?_
  simp only [Act.put, List.setIfInBounds_toArray, List.set_cons_zero, List.set_cons_succ]
  refine held_yes (xe.gr _) _ rfl (fun w1 hw1 => by unfold Oper.quietAt; go_simp; rfl) ?_
  simp only [Act.put, List.setIfInBounds_toArray, List.set_cons_zero, List.set_cons_succ]
  refine held_yes (xe.gr _) _ rfl (fun w1 hw1 => by unfold Oper.quietAt; go_simp; rfl) ?_
  simp only [Act.put, List.setIfInBounds_toArray, List.set_cons_zero, List.set_cons_succ]
  refine held_yesG (xe.gr _) _ rfl (fun w1 hw1 => by unfold Oper.quietAt; go_simp; rfl) ?_
  simp only [Act.put, List.setIfInBounds_toArray, List.set_cons_zero, List.set_cons_succ]
  refine held_yesG (xe.gr _) _ rfl (fun w1 hw1 => by unfold Oper.quietAt; go_simp; rfl) ?_
  simp only [Act.put, List.setIfInBounds_toArray, List.set_cons_zero, List.set_cons_succ]
  refine held_stepG rfl (fun K hK => ?_)
  go_simp
  refine (cost_any _ n).mono ?_
  rintro e w2 ⟨rfl, x2⟩
  have xe := xe.trans x2
  refine hK _ _ (xe.gr _) ?_
  clear hK K x2
  refine held_stepG rfl (fun K hK => ?_)
  go_simp
  refine (rcost_any _ n).mono ?_
  rintro e w2 ⟨rfl, x2⟩
  have xe := xe.trans x2
  refine hK _ _ (xe.gr _) ?_
  clear hK K x2
  refine held_yesG (xe.gr _) _ rfl (fun w1 hw1 => by unfold Oper.quietAt; go_simp; rfl) ?_
  simp only [Act.put, List.setIfInBounds_toArray, List.set_cons_zero, List.set_cons_succ]
  refine held_yes (xe.gr _) _ rfl (fun w1 hw1 => by unfold Oper.quietAt; go_simp; rfl) ?_
  simp only [Act.put, List.setIfInBounds_toArray, List.set_cons_zero, List.set_cons_succ]
  refine held_yes (xe.gr _) _ rfl (fun w1 hw1 => by unfold Oper.quietAt; go_simp; rfl) ?_
  simp only [Act.put, List.setIfInBounds_toArray, List.set_cons_zero, List.set_cons_succ]
  refine held_yesG (xe.gr _) _ rfl (fun w1 hw1 => by obtain ⟨c0, c1, c2, c3, c4, c5, c6⟩ := B6.out.seen hw1; unfold Oper.quietAt; go_simp; rfl) ?_
  simp only [Act.put, List.setIfInBounds_toArray, List.set_cons_zero, List.set_cons_succ]
  refine held_yesG (xe.gr _) _ rfl (fun w1 hw1 => by obtain ⟨c0, c1, c2, c3, c4, c5, c6⟩ := B8.out.seen hw1; unfold Oper.quietAt; go_simp; rfl) ?_
  simp only [Act.put, List.setIfInBounds_toArray, List.set_cons_zero, List.set_cons_succ]
  refine held_yesG (xe.gr _) _ rfl (fun w1 hw1 => by unfold Oper.quietAt; go_simp; rfl) ?_
  simp only [Act.put, List.setIfInBounds_toArray, List.set_cons_zero, List.set_cons_succ]
  refine held_yes (xe.gr _) _ rfl (fun w1 hw1 => by unfold Oper.quietAt; go_simp; rfl) ?_
  simp only [Act.put, List.setIfInBounds_toArray, List.set_cons_zero, List.set_cons_succ]
  refine held_yes (xe.gr _) _ rfl (fun w1 hw1 => by unfold Oper.quietAt; go_simp; rfl) ?_
  simp only [Act.put, List.setIfInBounds_toArray, List.set_cons_zero, List.set_cons_succ]
  refine held_yesG (xe.gr _) _ rfl (fun w1 hw1 => by unfold Oper.quietAt; go_simp; rfl) ?_
  simp only [Act.put, List.setIfInBounds_toArray, List.set_cons_zero, List.set_cons_succ]
  refine held_yesG (xe.gr _) _ rfl (fun w1 hw1 => by unfold Oper.quietAt; go_simp; rfl) ?_
  simp only [Act.put, List.setIfInBounds_toArray, List.set_cons_zero, List.set_cons_succ]
  refine held_yesG (xe.gr _) _ rfl (fun w1 hw1 => by unfold Oper.quietAt; go_simp; rfl) ?_
  simp only [Act.put, List.setIfInBounds_toArray, List.set_cons_zero, List.set_cons_succ]
  refine held_yes (xe.gr _) _ rfl (fun w1 hw1 => by unfold Oper.quietAt; go_simp; rfl) ?_
  simp only [Act.put, List.setIfInBounds_toArray, List.set_cons_zero, List.set_cons_succ]
  refine held_yes (xe.gr _) _ rfl (fun w1 hw1 => by unfold Oper.quietAt; go_simp; rfl) ?_
  simp only [Act.put, List.setIfInBounds_toArray, List.set_cons_zero, List.set_cons_succ]
  refine held_stepG rfl (fun K hK => ?_)
  go_simp
  refine (awake_any _).mono ?_
  rintro e w2 ⟨rfl, x2⟩
  have xe := xe.trans x2
  refine hK _ _ (xe.gr _) ?_
  clear hK K x2
  refine held_yes (xe.gr _) _ rfl (fun w1 hw1 => by unfold Oper.quietAt; go_simp; rfl) ?_
  simp only [Act.put, List.setIfInBounds_toArray, List.set_cons_zero, List.set_cons_succ]
  refine held_nil ?_
  go_wp2_with fail
  go_ret
  exact ⟨rfl, x0.trans xe⟩

end Go.Proofs.Ytnldfglgdchinaa
