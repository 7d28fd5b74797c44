/- Anything read of any Read is told as the document says: the walk. -/
import Derived.Test.YtfkfnhehbhebeaaN
import Derived.Laws.StructEq
namespace Go.Proofs.Ytfkfnhehbhebeaa
set_option linter.unusedSimpArgs false
set_option linter.unusedVariables false
open Go.RowKit

set_option maxRecDepth 100000 in
@[go_sem] theorem eql_read23 (w : World) (s : ByteArray) (p b : Int) : (binOp .eql 23 (rdV s p b) (rdV s p b)).run Try.prog w = .ok (.bool true) w := by
  rw [run_eql_struct, run_equalIn_struct w 9999 23 _ _ (by kernel_rfl) (by kernel_rfl)]
  simp [go_sem]
set_option maxRecDepth 100000 in
@[go_sem] theorem neq_read27 (w : World) (s : ByteArray) (p b : Int) : (binOp .neq 27 (rdV s p b) (rdV s p b)).run Try.prog w = .ok (.bool false) w := by
  rw [run_neq_struct, run_equalIn_struct w 9999 27 _ _ (by kernel_rfl) (by kernel_rfl)]
  simp [go_sem]
@[go_sem] theorem guard23 (w : World) (op : BinOp) (x y : Operand) (xs ys : Array Value) : (eqGuard op 23 x y (.agg xs) (.agg ys)).run Try.prog w = .ok () w := run_eqGuard_agg w op 23 x y xs ys (by kernel_rfl)
@[go_sem] theorem guard27 (w : World) (op : BinOp) (x y : Operand) (xs ys : Array Value) : (eqGuard op 27 x y (.agg xs) (.agg ys)).run Try.prog w = .ok () w := run_eqGuard_agg w op 27 x y xs ys (by kernel_rfl)

set_option maxRecDepth 100000 in
set_option maxHeartbeats 20000000 in
theorem reads_walk (w : World) (s : ByteArray) (p b n : Int) : Calls Try.prog 3 #[rdV s p b, .int .i64 n] w fun e w' => e = .returned (.bool true) ∧ Ext w w' := by
  by_cases hl : (300 : Int) < s.size
  case' pos =>
    go_enter Try.func3, Try.ntmps3
    go_wp2_with fail
    refine (awake_any _).mono ?_
    rintro e w1 ⟨rfl, x1⟩
    go_wp2_with fail
    go_ret
    exact ⟨rfl, (Ext.alloc _ _).trans x1⟩
  case' neg =>
    have hs : s.size ≤ 1000000 := by omega
    obtain ⟨p1, hp1⟩ : ∃ x : Int, x = numP s p b n := ⟨_, rfl⟩
    obtain ⟨e1, he1⟩ : ∃ x : Int, x = numE s p b n := ⟨_, rfl⟩
    obtain ⟨n1, hn1⟩ : ∃ x : Int, x = numI s p b n := ⟨_, rfl⟩
    obtain ⟨p2, hp2⟩ : ∃ x : Int, x = textP s p b n := ⟨_, rfl⟩
    obtain ⟨e2, he2⟩ : ∃ x : Int, x = textE s p b n := ⟨_, rfl⟩
    obtain ⟨p3, hp3⟩ : ∃ x : Int, x = restP s p b := ⟨_, rfl⟩
    obtain ⟨e3, he3⟩ : ∃ x : Int, x = faultI s p b := ⟨_, rfl⟩
    obtain ⟨t2, ht2⟩ : ∃ x : ByteArray, x = textS s p b n := ⟨_, rfl⟩
    obtain ⟨t3, ht3⟩ : ∃ x : ByteArray, x = restS s p b := ⟨_, rfl⟩
    have C1 : Hid (∀ w, Calls Try.prog 11 #[rdV s p b, .int .i64 n] w fun e w' => e = .returned (.tuple #[rdV s p1 e1, .int .i64 n1]) ∧ Ext w w') := Lib.hid (by intro w; rw [hp1, he1, hn1]; exact num_any w s p b n hs)
    have C2 : Hid (∀ w, Calls Try.prog 12 #[rdV s p b, .int .i64 n] w fun e w' => e = .returned (.tuple #[rdV s p1 e1, .int .i64 n1]) ∧ Ext w w') := Lib.hid (by intro w; rw [hp1, he1, hn1]; exact rnum_any w s p b n hs)
    have C3 : Hid (∀ w, Calls Try.prog 13 #[rdV s p b, .int .i64 n] w fun e w' => e = .returned (.tuple #[rdV s p2 e2, .string t2]) ∧ Ext w w') := Lib.hid (by intro w; rw [hp2, he2, ht2]; exact text_any w s p b n hs)
    have C4 : Hid (∀ w, Calls Try.prog 14 #[rdV s p b, .int .i64 n] w fun e w' => e = .returned (.tuple #[rdV s p2 e2, .string t2]) ∧ Ext w w') := Lib.hid (by intro w; rw [hp2, he2, ht2]; exact rtext_any w s p b n hs)
    have C5 : Hid (∀ w, Calls Try.prog 15 #[rdV s p b] w fun e w' => e = .returned (.tuple #[rdV s p3 e3, .string t3]) ∧ Ext w w') := Lib.hid (by intro w; rw [hp3, he3, ht3]; exact rest_any w s p b hs)
    have C6 : Hid (∀ w, Calls Try.prog 16 #[rdV s p b] w fun e w' => e = .returned (.tuple #[rdV s p3 e3, .string t3]) ∧ Ext w w') := Lib.hid (by intro w; rw [hp3, he3, ht3]; exact rrest_any w s p b hs)
    clear hp1 he1 hn1 hp2 he2 hp3 he3 ht2 ht3
    go_enter Try.func3, Try.ntmps3
    go_wp2_with fail
    obtain ⟨w0, hw0⟩ : ∃ w0, w0 = w.alloc (.cells #[.string s, .int .i64 p, .int .i64 b] 23) := ⟨_, rfl⟩
    rw [← hw0]
    have x0 : Ext w w0 := hw0 ▸ Ext.alloc _ _
    have B2 : Hid (RBox w0 w.heap.size s p b) := Lib.hid (hw0 ▸ RBox.new w 23 s p b)
    clear hw0
    refine (own_any _ s p b).mono ?_
    rintro e w5 ⟨rfl, x1⟩
    have B2 := Lib.hid (B2.out.ext x1)
    have x0 := x0.trans x1
    clear x1
    go_wp2_with fail
    obtain ⟨v5, hv⟩ : ∃ v, v = w5.alloc (.cells #[.string s, .int .i64 p, .int .i64 b] 27) := ⟨_, rfl⟩
    try rw [← hv]
    have x0 : Ext w v5 := hv ▸ x0.al _
    have B5 : Hid (RBox v5 w5.heap.size s p b) := Lib.hid (hv ▸ RBox.new w5 27 s p b)
    have B2 : Hid (RBox v5 _ _ _ _) := Lib.hid (B2.out.ext (hv ▸ Ext.alloc w5 _))
    generalize w5.heap.size = b5 at *
    clear hv
    refine (C1.out _).mono ?_
    rintro e w6 ⟨rfl, x1⟩
    have B2 := Lib.hid (B2.out.ext x1)
    have B5 := Lib.hid (B5.out.ext x1)
    have x0 := x0.trans x1
    clear x1
    obtain ⟨C2_0, C2_1, C2_2⟩ := B2.out.cells
    have C2_0 := (Ext.alloc w6 (.cells #[.string s, .int .i64 p1, .int .i64 e1] 27)).cell_some C2_0
    have C2_1 := (Ext.alloc w6 (.cells #[.string s, .int .i64 p1, .int .i64 e1] 27)).cell_some C2_1
    have C2_2 := (Ext.alloc w6 (.cells #[.string s, .int .i64 p1, .int .i64 e1] 27)).cell_some C2_2
    go_wp2_with fail
    obtain ⟨v6, hv⟩ : ∃ v, v = w6.alloc (.cells #[.string s, .int .i64 p1, .int .i64 e1] 27) := ⟨_, rfl⟩
    try rw [← hv]
    have x0 : Ext w v6 := hv ▸ x0.al _
    have B6 : Hid (RBox v6 w6.heap.size s p1 e1) := Lib.hid (hv ▸ RBox.new w6 27 s p1 e1)
    have B2 : Hid (RBox v6 _ _ _ _) := Lib.hid (B2.out.ext (hv ▸ Ext.alloc w6 _))
    have B5 : Hid (RBox v6 _ _ _ _) := Lib.hid (B5.out.ext (hv ▸ Ext.alloc w6 _))
    clear C2_0 C2_1 C2_2
    generalize w6.heap.size = b6 at *
    clear hv
    refine (C2.out _).mono ?_
    rintro e w8 ⟨rfl, x1⟩
    have B2 := Lib.hid (B2.out.ext x1)
    have B5 := Lib.hid (B5.out.ext x1)
    have B6 := Lib.hid (B6.out.ext x1)
    have x0 := x0.trans x1
    clear x1
    obtain ⟨C5_0, C5_1, C5_2⟩ := B5.out.cells
    have C5_0 := (Ext.alloc w8 (.cells #[.string s, .int .i64 p1, .int .i64 e1] 23)).cell_some C5_0
    have C5_1 := (Ext.alloc w8 (.cells #[.string s, .int .i64 p1, .int .i64 e1] 23)).cell_some C5_1
    have C5_2 := (Ext.alloc w8 (.cells #[.string s, .int .i64 p1, .int .i64 e1] 23)).cell_some C5_2
    go_wp2_with fail
    obtain ⟨v8, hv⟩ : ∃ v, v = w8.alloc (.cells #[.string s, .int .i64 p1, .int .i64 e1] 23) := ⟨_, rfl⟩
    try rw [← hv]
    have x0 : Ext w v8 := hv ▸ x0.al _
    have B8 : Hid (RBox v8 w8.heap.size s p1 e1) := Lib.hid (hv ▸ RBox.new w8 23 s p1 e1)
    have B2 : Hid (RBox v8 _ _ _ _) := Lib.hid (B2.out.ext (hv ▸ Ext.alloc w8 _))
    have B5 : Hid (RBox v8 _ _ _ _) := Lib.hid (B5.out.ext (hv ▸ Ext.alloc w8 _))
    have B6 : Hid (RBox v8 _ _ _ _) := Lib.hid (B6.out.ext (hv ▸ Ext.alloc w8 _))
    clear C5_0 C5_1 C5_2
    generalize w8.heap.size = b8 at *
    clear hv
    refine (C3.out _).mono ?_
    rintro e w10 ⟨rfl, x1⟩
    have B2 := Lib.hid (B2.out.ext x1)
    have B5 := Lib.hid (B5.out.ext x1)
    have B6 := Lib.hid (B6.out.ext x1)
    have B8 := Lib.hid (B8.out.ext x1)
    have x0 := x0.trans x1
    clear x1
    obtain ⟨C2_0, C2_1, C2_2⟩ := B2.out.cells
    have C2_0 := (Ext.alloc w10 (.cells #[.string s, .int .i64 p2, .int .i64 e2] 27)).cell_some C2_0
    have C2_1 := (Ext.alloc w10 (.cells #[.string s, .int .i64 p2, .int .i64 e2] 27)).cell_some C2_1
    have C2_2 := (Ext.alloc w10 (.cells #[.string s, .int .i64 p2, .int .i64 e2] 27)).cell_some C2_2
    go_wp2_with fail
    obtain ⟨v10, hv⟩ : ∃ v, v = w10.alloc (.cells #[.string s, .int .i64 p2, .int .i64 e2] 27) := ⟨_, rfl⟩
    try rw [← hv]
    have x0 : Ext w v10 := hv ▸ x0.al _
    have B10 : Hid (RBox v10 w10.heap.size s p2 e2) := Lib.hid (hv ▸ RBox.new w10 27 s p2 e2)
    have B2 : Hid (RBox v10 _ _ _ _) := Lib.hid (B2.out.ext (hv ▸ Ext.alloc w10 _))
    have B5 : Hid (RBox v10 _ _ _ _) := Lib.hid (B5.out.ext (hv ▸ Ext.alloc w10 _))
    have B6 : Hid (RBox v10 _ _ _ _) := Lib.hid (B6.out.ext (hv ▸ Ext.alloc w10 _))
    have B8 : Hid (RBox v10 _ _ _ _) := Lib.hid (B8.out.ext (hv ▸ Ext.alloc w10 _))
    clear C2_0 C2_1 C2_2
    generalize w10.heap.size = b10 at *
    clear hv
    refine (C4.out _).mono ?_
    rintro e w12 ⟨rfl, x1⟩
    have B2 := Lib.hid (B2.out.ext x1)
    have B5 := Lib.hid (B5.out.ext x1)
    have B6 := Lib.hid (B6.out.ext x1)
    have B8 := Lib.hid (B8.out.ext x1)
    have B10 := Lib.hid (B10.out.ext x1)
    have x0 := x0.trans x1
    clear x1
    obtain ⟨C5_0, C5_1, C5_2⟩ := B5.out.cells
    have C5_0 := (Ext.alloc w12 (.cells #[.string s, .int .i64 p2, .int .i64 e2] 23)).cell_some C5_0
    have C5_1 := (Ext.alloc w12 (.cells #[.string s, .int .i64 p2, .int .i64 e2] 23)).cell_some C5_1
    have C5_2 := (Ext.alloc w12 (.cells #[.string s, .int .i64 p2, .int .i64 e2] 23)).cell_some C5_2
    go_wp2_with fail
    obtain ⟨v12, hv⟩ : ∃ v, v = w12.alloc (.cells #[.string s, .int .i64 p2, .int .i64 e2] 23) := ⟨_, rfl⟩
    try rw [← hv]
    have x0 : Ext w v12 := hv ▸ x0.al _
    have B12 : Hid (RBox v12 w12.heap.size s p2 e2) := Lib.hid (hv ▸ RBox.new w12 23 s p2 e2)
    have B2 : Hid (RBox v12 _ _ _ _) := Lib.hid (B2.out.ext (hv ▸ Ext.alloc w12 _))
    have B5 : Hid (RBox v12 _ _ _ _) := Lib.hid (B5.out.ext (hv ▸ Ext.alloc w12 _))
    have B6 : Hid (RBox v12 _ _ _ _) := Lib.hid (B6.out.ext (hv ▸ Ext.alloc w12 _))
    have B8 : Hid (RBox v12 _ _ _ _) := Lib.hid (B8.out.ext (hv ▸ Ext.alloc w12 _))
    have B10 : Hid (RBox v12 _ _ _ _) := Lib.hid (B10.out.ext (hv ▸ Ext.alloc w12 _))
    clear C5_0 C5_1 C5_2
    generalize w12.heap.size = b12 at *
    clear hv
    refine (C5.out _).mono ?_
    rintro e w14 ⟨rfl, x1⟩
    have B2 := Lib.hid (B2.out.ext x1)
    have B5 := Lib.hid (B5.out.ext x1)
    have B6 := Lib.hid (B6.out.ext x1)
    have B8 := Lib.hid (B8.out.ext x1)
    have B10 := Lib.hid (B10.out.ext x1)
    have B12 := Lib.hid (B12.out.ext x1)
    have x0 := x0.trans x1
    clear x1
    obtain ⟨C2_0, C2_1, C2_2⟩ := B2.out.cells
    have C2_0 := (Ext.alloc w14 (.cells #[.string s, .int .i64 p3, .int .i64 e3] 27)).cell_some C2_0
    have C2_1 := (Ext.alloc w14 (.cells #[.string s, .int .i64 p3, .int .i64 e3] 27)).cell_some C2_1
    have C2_2 := (Ext.alloc w14 (.cells #[.string s, .int .i64 p3, .int .i64 e3] 27)).cell_some C2_2
    go_wp2_with fail
    obtain ⟨v14, hv⟩ : ∃ v, v = w14.alloc (.cells #[.string s, .int .i64 p3, .int .i64 e3] 27) := ⟨_, rfl⟩
    try rw [← hv]
    have x0 : Ext w v14 := hv ▸ x0.al _
    have B14 : Hid (RBox v14 w14.heap.size s p3 e3) := Lib.hid (hv ▸ RBox.new w14 27 s p3 e3)
    have B2 : Hid (RBox v14 _ _ _ _) := Lib.hid (B2.out.ext (hv ▸ Ext.alloc w14 _))
    have B5 : Hid (RBox v14 _ _ _ _) := Lib.hid (B5.out.ext (hv ▸ Ext.alloc w14 _))
    have B6 : Hid (RBox v14 _ _ _ _) := Lib.hid (B6.out.ext (hv ▸ Ext.alloc w14 _))
    have B8 : Hid (RBox v14 _ _ _ _) := Lib.hid (B8.out.ext (hv ▸ Ext.alloc w14 _))
    have B10 : Hid (RBox v14 _ _ _ _) := Lib.hid (B10.out.ext (hv ▸ Ext.alloc w14 _))
    have B12 : Hid (RBox v14 _ _ _ _) := Lib.hid (B12.out.ext (hv ▸ Ext.alloc w14 _))
    clear C2_0 C2_1 C2_2
    generalize w14.heap.size = b14 at *
    clear hv
    refine (C6.out _).mono ?_
    rintro e w16 ⟨rfl, x1⟩
    have B2 := Lib.hid (B2.out.ext x1)
    have B5 := Lib.hid (B5.out.ext x1)
    have B6 := Lib.hid (B6.out.ext x1)
    have B8 := Lib.hid (B8.out.ext x1)
    have B10 := Lib.hid (B10.out.ext x1)
    have B12 := Lib.hid (B12.out.ext x1)
    have B14 := Lib.hid (B14.out.ext x1)
    have x0 := x0.trans x1
    clear x1
    go_wp2_with fail
    refine region_held none [(0, true), (2, true), (1, false), (3, true), (4, true), (5, true), (6, true), (7, true), (8, true), (9, true), (10, true), (12, true), (11, false), (13, true), (14, true), (15, true), (16, true), (17, true), (18, true), (19, true), (20, true), (21, true), (23, true), (22, false), (24, true), (25, true), (26, true), (27, true), (28, true), (29, true), (30, true), (31, true), (32, true), (34, true), (33, false), (35, false), (36, true), (37, true), (38, true), (39, true), (41, true), (40, false), (42, false), (43, true), (44, true), (45, true), (46, true), (47, true), (50, true), (51, true), (48, false), (49, false), (52, false), (53, true), (54, true), (55, true), (56, false), (57, true)] [58] (by kernel_rfl) (by kernel_rfl) (fun _ _ d _ _ h => by cases d <;> exact h) (fun W hW => ?_)
    simp only [pick, pickF, List.getElem?_cons_zero, List.getElem?_cons_succ]
    have xW : Ext w16 W := by rw [hW]; exact (Ext.alloc w16 (.cells #[.string s, .int .i64 p3, .int .i64 e3] 23)).dr
    have B16 : Hid (RBox W w16.heap.size s p3 e3) := Lib.hid (by rw [hW]; exact (RBox.new w16 23 s p3 e3).ext (Ext.drew _))
    have B2 : Hid (RBox W _ _ _ _) := Lib.hid (B2.out.ext xW)
    have B5 : Hid (RBox W _ _ _ _) := Lib.hid (B5.out.ext xW)
    have B6 : Hid (RBox W _ _ _ _) := Lib.hid (B6.out.ext xW)
    have B8 : Hid (RBox W _ _ _ _) := Lib.hid (B8.out.ext xW)
    have B10 : Hid (RBox W _ _ _ _) := Lib.hid (B10.out.ext xW)
    have B12 : Hid (RBox W _ _ _ _) := Lib.hid (B12.out.ext xW)
    have B14 : Hid (RBox W _ _ _ _) := Lib.hid (B14.out.ext xW)
    have x0 := x0.trans xW
    clear hW xW
    have xe := Ext.refl W
    refine held_yes (xe.gr _) _ rfl (fun w1 hw1 => by obtain ⟨c0, c1, c2⟩ := B6.out.seen hw1; unfold Oper.quietAt; go_simp; rfl) ?_
    simp only [Act.put, List.setIfInBounds_toArray, List.set_cons_zero, List.set_cons_succ]
    refine held_yes (xe.gr _) _ rfl (fun w1 hw1 => by obtain ⟨c0, c1, c2⟩ := B8.out.seen hw1; unfold Oper.quietAt; go_simp; rfl) ?_
    simp only [Act.put, List.setIfInBounds_toArray, List.set_cons_zero, List.set_cons_succ]
    refine held_step rfl (fun K hK => ?_)
    go_simp
    refine (back_any _ s p1 e1).mono ?_
    rintro e w2 ⟨rfl, x2⟩
    have xe := xe.trans x2
    refine hK _ _ (xe.gr _) ?_
    clear hK K x2
    refine held_yes (xe.gr _) _ rfl (fun w1 hw1 => by unfold Oper.quietAt; go_simp; rfl) ?_
    simp only [Act.put, List.setIfInBounds_toArray, List.set_cons_zero, List.set_cons_succ]
    refine held_yes (xe.gr _) _ rfl (fun w1 hw1 => by unfold Oper.quietAt; go_simp; rfl) ?_
    simp only [Act.put, List.setIfInBounds_toArray, List.set_cons_zero, List.set_cons_succ]
    refine held_yesG (xe.gr _) _ rfl (fun w1 hw1 => by unfold Oper.quietAt; go_simp; rfl) ?_
    simp only [Act.put, List.setIfInBounds_toArray, List.set_cons_zero, List.set_cons_succ]
    refine held_yesG (xe.gr _) _ rfl (fun w1 hw1 => by unfold Oper.quietAt; go_simp; rfl) ?_
    simp only [Act.put, List.setIfInBounds_toArray, List.set_cons_zero, List.set_cons_succ]
    refine held_yesG (xe.gr _) _ rfl (fun w1 hw1 => by unfold Oper.quietAt; go_simp; rfl) ?_
    simp only [Act.put, List.setIfInBounds_toArray, List.set_cons_zero, List.set_cons_succ]
    refine held_yes (xe.gr _) _ rfl (fun w1 hw1 => by unfold Oper.quietAt; go_simp; rfl) ?_
    simp only [Act.put, List.setIfInBounds_toArray, List.set_cons_zero, List.set_cons_succ]
    refine held_yes (xe.gr _) _ rfl (fun w1 hw1 => by unfold Oper.quietAt; go_simp; rfl) ?_
    simp only [Act.put, List.setIfInBounds_toArray, List.set_cons_zero, List.set_cons_succ]
    refine held_yesG (xe.gr _) _ rfl (fun w1 hw1 => by obtain ⟨c0, c1, c2⟩ := B10.out.seen hw1; unfold Oper.quietAt; go_simp; rfl) ?_
    simp only [Act.put, List.setIfInBounds_toArray, List.set_cons_zero, List.set_cons_succ]
    refine held_yesG (xe.gr _) _ rfl (fun w1 hw1 => by obtain ⟨c0, c1, c2⟩ := B12.out.seen hw1; unfold Oper.quietAt; go_simp; rfl) ?_
    simp only [Act.put, List.setIfInBounds_toArray, List.set_cons_zero, List.set_cons_succ]
    refine held_stepG rfl (fun K hK => ?_)
    go_simp
    refine (back_any _ s p2 e2).mono ?_
    rintro e w2 ⟨rfl, x2⟩
    have xe := xe.trans x2
    refine hK _ _ (xe.gr _) ?_
    clear hK K x2
    refine held_yesG (xe.gr _) _ rfl (fun w1 hw1 => by unfold Oper.quietAt; go_simp; rfl) ?_
    simp only [Act.put, List.setIfInBounds_toArray, List.set_cons_zero, List.set_cons_succ]
    refine held_yes (xe.gr _) _ rfl (fun w1 hw1 => by unfold Oper.quietAt; go_simp; rfl) ?_
    simp only [Act.put, List.setIfInBounds_toArray, List.set_cons_zero, List.set_cons_succ]
    refine held_yes (xe.gr _) _ rfl (fun w1 hw1 => by unfold Oper.quietAt; go_simp; rfl) ?_
    simp only [Act.put, List.setIfInBounds_toArray, List.set_cons_zero, List.set_cons_succ]
    refine held_yesG (xe.gr _) _ rfl (fun w1 hw1 => by unfold Oper.quietAt; go_simp; rfl) ?_
    simp only [Act.put, List.setIfInBounds_toArray, List.set_cons_zero, List.set_cons_succ]
    refine held_yesG (xe.gr _) _ rfl (fun w1 hw1 => by unfold Oper.quietAt; go_simp; rfl) ?_
    simp only [Act.put, List.setIfInBounds_toArray, List.set_cons_zero, List.set_cons_succ]
    refine held_yesG (xe.gr _) _ rfl (fun w1 hw1 => by unfold Oper.quietAt; go_simp; rfl) ?_
    simp only [Act.put, List.setIfInBounds_toArray, List.set_cons_zero, List.set_cons_succ]
    refine held_yes (xe.gr _) _ rfl (fun w1 hw1 => by unfold Oper.quietAt; go_simp; rfl) ?_
    simp only [Act.put, List.setIfInBounds_toArray, List.set_cons_zero, List.set_cons_succ]
    refine held_yes (xe.gr _) _ rfl (fun w1 hw1 => by unfold Oper.quietAt; go_simp; rfl) ?_
    simp only [Act.put, List.setIfInBounds_toArray, List.set_cons_zero, List.set_cons_succ]
    refine held_yesG (xe.gr _) _ rfl (fun w1 hw1 => by obtain ⟨c0, c1, c2⟩ := B14.out.seen hw1; unfold Oper.quietAt; go_simp; rfl) ?_
    simp only [Act.put, List.setIfInBounds_toArray, List.set_cons_zero, List.set_cons_succ]
    refine held_yesG (xe.gr _) _ rfl (fun w1 hw1 => by obtain ⟨c0, c1, c2⟩ := B16.out.seen hw1; unfold Oper.quietAt; go_simp; rfl) ?_
    simp only [Act.put, List.setIfInBounds_toArray, List.set_cons_zero, List.set_cons_succ]
    refine held_stepG rfl (fun K hK => ?_)
    go_simp
    refine (back_any _ s p3 e3).mono ?_
    rintro e w2 ⟨rfl, x2⟩
    have xe := xe.trans x2
    refine hK _ _ (xe.gr _) ?_
    clear hK K x2
    refine held_yesG (xe.gr _) _ rfl (fun w1 hw1 => by unfold Oper.quietAt; go_simp; rfl) ?_
    simp only [Act.put, List.setIfInBounds_toArray, List.set_cons_zero, List.set_cons_succ]
    refine held_yes (xe.gr _) _ rfl (fun w1 hw1 => by unfold Oper.quietAt; go_simp; rfl) ?_
    simp only [Act.put, List.setIfInBounds_toArray, List.set_cons_zero, List.set_cons_succ]
    refine held_yes (xe.gr _) _ rfl (fun w1 hw1 => by unfold Oper.quietAt; go_simp; rfl) ?_
    simp only [Act.put, List.setIfInBounds_toArray, List.set_cons_zero, List.set_cons_succ]
    refine held_yesG (xe.gr _) _ rfl (fun w1 hw1 => by unfold Oper.quietAt; go_simp; rfl) ?_
    simp only [Act.put, List.setIfInBounds_toArray, List.set_cons_zero, List.set_cons_succ]
    refine held_yesG (xe.gr _) _ rfl (fun w1 hw1 => by unfold Oper.quietAt; go_simp; rfl) ?_
    simp only [Act.put, List.setIfInBounds_toArray, List.set_cons_zero, List.set_cons_succ]
    refine held_yesG (xe.gr _) _ rfl (fun w1 hw1 => by unfold Oper.quietAt; go_simp; rfl) ?_
    simp only [Act.put, List.setIfInBounds_toArray, List.set_cons_zero, List.set_cons_succ]
    refine held_yes (xe.gr _) _ rfl (fun w1 hw1 => by unfold Oper.quietAt; go_simp; rfl) ?_
    simp only [Act.put, List.setIfInBounds_toArray, List.set_cons_zero, List.set_cons_succ]
    refine held_yes (xe.gr _) _ rfl (fun w1 hw1 => by unfold Oper.quietAt; go_simp; rfl) ?_
    simp only [Act.put, List.setIfInBounds_toArray, List.set_cons_zero, List.set_cons_succ]
    refine held_yesG (xe.gr _) _ rfl (fun w1 hw1 => by obtain ⟨c0, c1, c2⟩ := B5.out.seen hw1; unfold Oper.quietAt; go_simp; rfl) ?_
    simp only [Act.put, List.setIfInBounds_toArray, List.set_cons_zero, List.set_cons_succ]
    refine held_yesG (xe.gr _) _ rfl (fun w1 hw1 => by obtain ⟨c0, c1, c2⟩ := B2.out.seen hw1; unfold Oper.quietAt; go_simp; rfl) ?_
    simp only [Act.put, List.setIfInBounds_toArray, List.set_cons_zero, List.set_cons_succ]
    refine held_stepG rfl (fun K hK => ?_)
    go_simp
    refine (left_any _ s p b hs).mono ?_
    rintro e w2 ⟨rfl, x2⟩
    have xe := xe.trans x2
    refine hK _ _ (xe.gr _) ?_
    clear hK K x2
    refine held_stepG rfl (fun K hK => ?_)
    go_simp
    refine (rleft_any _ s p b hs).mono ?_
    rintro e w2 ⟨rfl, x2⟩
    have xe := xe.trans x2
    refine hK _ _ (xe.gr _) ?_
    clear hK K x2
    refine held_yesG (xe.gr _) _ rfl (fun w1 hw1 => by unfold Oper.quietAt; go_simp; rfl) ?_
    simp only [Act.put, List.setIfInBounds_toArray, List.set_cons_zero, List.set_cons_succ]
    refine held_yes (xe.gr _) _ rfl (fun w1 hw1 => by unfold Oper.quietAt; go_simp; rfl) ?_
    simp only [Act.put, List.setIfInBounds_toArray, List.set_cons_zero, List.set_cons_succ]
    refine held_yes (xe.gr _) _ rfl (fun w1 hw1 => by unfold Oper.quietAt; go_simp; rfl) ?_
    simp only [Act.put, List.setIfInBounds_toArray, List.set_cons_zero, List.set_cons_succ]
    refine held_yesG (xe.gr _) _ rfl (fun w1 hw1 => by obtain ⟨c0, c1, c2⟩ := B5.out.seen hw1; unfold Oper.quietAt; go_simp; rfl) ?_
    simp only [Act.put, List.setIfInBounds_toArray, List.set_cons_zero, List.set_cons_succ]
    refine held_yesG (xe.gr _) _ rfl (fun w1 hw1 => by obtain ⟨c0, c1, c2⟩ := B2.out.seen hw1; unfold Oper.quietAt; go_simp; rfl) ?_
    simp only [Act.put, List.setIfInBounds_toArray, List.set_cons_zero, List.set_cons_succ]
    refine held_stepG rfl (fun K hK => ?_)
    go_simp
    refine (done_any _ s p b hs).mono ?_
    rintro e w2 ⟨rfl, x2⟩
    have xe := xe.trans x2
    refine hK _ _ (xe.gr _) ?_
    clear hK K x2
    refine held_stepG rfl (fun K hK => ?_)
    go_simp
    refine (rdone_any _ s p b hs).mono ?_
    rintro e w2 ⟨rfl, x2⟩
    have xe := xe.trans x2
    refine hK _ _ (xe.gr _) ?_
    clear hK K x2
    refine held_yesG (xe.gr _) _ rfl (fun w1 hw1 => by unfold Oper.quietAt; go_simp; rfl) ?_
    simp only [Act.put, List.setIfInBounds_toArray, List.set_cons_zero, List.set_cons_succ]
    refine held_yes (xe.gr _) _ rfl (fun w1 hw1 => by unfold Oper.quietAt; go_simp; rfl) ?_
    simp only [Act.put, List.setIfInBounds_toArray, List.set_cons_zero, List.set_cons_succ]
    refine held_yes (xe.gr _) _ rfl (fun w1 hw1 => by unfold Oper.quietAt; go_simp; rfl) ?_
    simp only [Act.put, List.setIfInBounds_toArray, List.set_cons_zero, List.set_cons_succ]
    refine held_yesG (xe.gr _) _ rfl (fun w1 hw1 => by unfold Oper.quietAt; go_simp; rfl) ?_
    simp only [Act.put, List.setIfInBounds_toArray, List.set_cons_zero, List.set_cons_succ]
    refine held_yesG (xe.gr _) _ rfl (fun w1 hw1 => by obtain ⟨c0, c1, c2⟩ := B2.out.seen hw1; unfold Oper.quietAt; go_simp; rfl) ?_
    simp only [Act.put, List.setIfInBounds_toArray, List.set_cons_zero, List.set_cons_succ]
    refine held_yesG (xe.gr _) _ rfl (fun w1 hw1 => by unfold Oper.quietAt; go_simp; rfl) ?_
    simp only [Act.put, List.setIfInBounds_toArray, List.set_cons_zero, List.set_cons_succ]
    refine held_yesG (xe.gr _) _ rfl (fun w1 hw1 => by obtain ⟨c0, c1, c2⟩ := B2.out.seen hw1; unfold Oper.quietAt; go_simp; rfl) ?_
    simp only [Act.put, List.setIfInBounds_toArray, List.set_cons_zero, List.set_cons_succ]
    refine held_stepG rfl (fun K hK => ?_)
    go_simp
    refine (open_any _ s).mono ?_
    rintro e w2 ⟨rfl, x2⟩
    have xe := xe.trans x2
    refine hK _ _ (xe.gr _) ?_
    clear hK K x2
    refine held_stepG rfl (fun K hK => ?_)
    go_simp
    refine (back_any _ s 0 0).mono ?_
    rintro e w2 ⟨rfl, x2⟩
    have xe := xe.trans x2
    refine hK _ _ (xe.gr _) ?_
    clear hK K x2
    refine held_stepG rfl (fun K hK => ?_)
    go_simp
    refine (ropen_any _ s).mono ?_
    rintro e w2 ⟨rfl, x2⟩
    have xe := xe.trans x2
    refine hK _ _ (xe.gr _) ?_
    clear hK K x2
    refine held_yesG (xe.gr _) _ rfl (fun w1 hw1 => by unfold Oper.quietAt; go_simp; rfl) ?_
    simp only [Act.put, List.setIfInBounds_toArray, List.set_cons_zero, List.set_cons_succ]
    refine held_yes (xe.gr _) _ rfl (fun w1 hw1 => by unfold Oper.quietAt; go_simp; rfl) ?_
    simp only [Act.put, List.setIfInBounds_toArray, List.set_cons_zero, List.set_cons_succ]
    refine held_yes (xe.gr _) _ rfl (fun w1 hw1 => by unfold Oper.quietAt; go_simp; rfl) ?_
    simp only [Act.put, List.setIfInBounds_toArray, List.set_cons_zero, List.set_cons_succ]
    refine held_stepG rfl (fun K hK => ?_)
    go_simp
    refine (awake_any _).mono ?_
    rintro e w2 ⟨rfl, x2⟩
    have xe := xe.trans x2
    refine hK _ _ (xe.gr _) ?_
    clear hK K x2
    refine held_yes (xe.gr _) _ rfl (fun w1 hw1 => by unfold Oper.quietAt; go_simp; rfl) ?_
    simp only [Act.put, List.setIfInBounds_toArray, List.set_cons_zero, List.set_cons_succ]
    refine held_nil ?_
    go_wp2_with fail
    go_ret
    exact ⟨rfl, x0.trans xe⟩

end Go.Proofs.Ytfkfnhehbhebeaa
