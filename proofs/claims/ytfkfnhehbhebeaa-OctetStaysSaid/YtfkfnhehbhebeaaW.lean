/- The first error stays: the walk. -/
import Derived.Test.YtfkfnhehbhebeaaO
namespace Go.Proofs.Ytfkfnhehbhebeaa
set_option linter.unusedSimpArgs false
set_option linter.unusedVariables false
open Go.RowKit

/-- The cells of a slice of numbers. -/
def IntsAt (w : World) (a : Option Addr) (l : List Int) : Prop :=
  l = [] ∨ ∃ g o, a = some ⟨g, o, none⟩ ∧ ∀ j (h : j < l.length), w.cell? ⟨g, o + j, none⟩ = some (.int .i64 l[j])

theorem IntsAt.ext {w w' : World} {a : Option Addr} {l : List Int} (h : IntsAt w a l) (x : Ext w w') : IntsAt w' a l := by
  rcases h with h | ⟨g, o, ha, hc⟩
  · exact .inl h
  · exact .inr ⟨g, o, ha, fun j hj => x.cell_some (hc j hj)⟩

theorem IntsAt.get {w : World} {a : Option Addr} {l : List Int} (h : IntsAt w a l) {j : Nat} (hj : j < l.length) : ∃ g o, a = some ⟨g, o, none⟩ ∧ w.cell? ⟨g, o + j, none⟩ = some (.int .i64 l[j]) := by
  rcases h with rfl | ⟨g, o, ha, hc⟩
  · simp at hj
  · exact ⟨g, o, ha, hc j hj⟩

theorem bad_fault (s : ByteArray) : faultI s 0 2 = 2 := rfl
theorem bad_num (s : ByteArray) (n : Int) : numP s 0 2 n = 0 ∧ numE s 0 2 n = 2 ∧ numI s 0 2 n = 0 :=
  ⟨if_neg (fun x => by have := x.1; simp [bad_fault] at this), if_pos (by simp [bad_fault]), if_neg (fun x => by have := x.1; simp [bad_fault] at this)⟩
theorem bad_textP (s : ByteArray) (n : Int) : textP s 0 2 n = 0 ∧ textE s 0 2 n = 2 ∧ textS s 0 2 n = { data := #[] } := by
  obtain ⟨h1, h2⟩ := text_bad (s := s) (p := 0) (b := 2) (m := n) (by decide)
  refine ⟨h1, h2, if_neg ?_⟩
  simp [textB, (bad_num s 1).2.1]
theorem bad_rest (s : ByteArray) : restP s 0 2 = 0 ∧ restS s 0 2 = { data := #[] } := ⟨rfl, rfl⟩
theorem bad_left (s : ByteArray) : leftI s 0 2 = 0 := rfl
theorem bad_done (s : ByteArray) : doneI s 0 2 = 2 := rfl
theorem three_num (s : ByteArray) : numP s 0 0 3 = 0 ∧ numE s 0 0 3 = 2 ∧ numI s 0 0 3 = 0 := by
  have hw : wideB 3 = false := rfl
  have hf : faultI s 0 0 = 0 := by unfold faultI; rw [if_neg]; intro h; omega
  exact ⟨if_neg (fun x => by have := x.2.1; rw [hw] at this; cases this), by unfold numE; rw [if_neg (by simp [hf]), if_pos hw], if_neg (fun x => by have := x.2.1; rw [hw] at this; cases this)⟩

set_option maxRecDepth 100000 in
set_option maxHeartbeats 20000000 in
theorem stays_walk (w : World) (s : ByteArray) (a : Option Addr) (c : Nat) (l : List Int) (hA : Hid (IntsAt w a l)) :
    Calls Try.prog 8 #[.string s, .slice a l.length c] w fun e w' => e = .returned (.bool true) ∧ Ext w w' := by
  by_cases hl : (100 : Int) < s.size
  case' pos =>
    go_enter Try.func8, Try.ntmps8
    go_wp2_with fail
    refine (awake_any _).mono ?_
    rintro e w1 ⟨rfl, x1⟩
    go_wp2_with fail
    go_ret
    exact ⟨rfl, x1⟩
  by_cases hl2 : (20 : Int) < l.length
  case' pos =>
    go_enter Try.func8, Try.ntmps8
    go_wp2_with fail
    refine (awake_any _).mono ?_
    rintro e w1 ⟨rfl, x1⟩
    go_wp2_with fail
    go_ret
    exact ⟨rfl, x1⟩
  have hs : s.size ≤ 1000000 := by omega
  go_enter Try.func8, Try.ntmps8
  go_wp2_with fail
  refine (open_any _ s).mono ?_
  rintro e w1 ⟨rfl, x0⟩
  go_wp2_with fail
  refine (num_any _ s 0 0 3 hs).mono ?_
  rintro e w2 ⟨rfl, x1⟩
  have x0 := x0.trans x1
  clear x1
  rw [(three_num s).1, (three_num s).2.1, (three_num s).2.2]
  have B5 : RBox (w2.alloc (.cells #[.string s, .int .i64 0, .int .i64 2] 27)) w2.heap.size s 0 2 := RBox.new w2 27 s _ _
  go_wp2_with fail
  have x0 : Ext w (w2.alloc (.cells #[.string s, .int .i64 0, .int .i64 2] 27)) := x0.al _
  generalize w2.alloc (.cells #[.string s, .int .i64 0, .int .i64 2] 27) = w3 at *
  generalize w2.heap.size = b5 at *
  go_loopw [7] (fun i wr => ∃ j : Nat, i = .int .i64 j ∧ j ≤ l.length ∧ RBox wr b5 s 0 2 ∧ Ext w wr) (fun i _ => l.length - (intOf i).toNat)
  case atStart => exact ⟨0, rfl, by omega, B5, x0⟩
  case round =>
    clear B5 x0
    obtain ⟨j, rfl, hj, hb5, hx⟩ := hrel
    by_cases hlt : j < l.length
    · have hlt2 : (j : Int) < l.length := by omega
      obtain ⟨g, o, rfl, hc⟩ := (hA.out.ext hx).get hlt
      generalize l[j] = n at *
      have B5 := Lib.hid hb5
      clear hb5
      go_wp2_with fail
      refine region_heldFork none [(0, true), (1, true), (2, true), (3, true), (4, true)] 5 9 [(6, true), (7, true), (8, true), (9, false), (10, false)] [(5, false), (6, true), (7, true), (8, true), (10, false)] [11] (by kernel_rfl) (by kernel_rfl) (fun _ _ d _ _ h => by cases d <;> exact h) (fun W hW => ?_)
      simp only [pick, pickF, List.getElem?_cons_zero, List.getElem?_cons_succ]
      have xW : Ext wr W := hW ▸ Ext.drew _
      have hc := xW.cell_some hc
      have hx := hx.trans xW
      have B5 := Lib.hid (B5.out.ext xW)
      clear hW xW
      have q1 : ∀ w1, Gr none W w1 → w1.cell? _ = _ := fun w1 h => h.cell_some hc (by simp)
      have hgr := Gr.refl none W
      iterate 5
        refine heldK_yes hgr _ rfl (fun w1 hw1 => by obtain ⟨c0, c1, c2⟩ := B5.out.seen hw1; unfold Oper.quietAt; go_simp; rfl) ?_
        simp only [Act.put, List.setIfInBounds_toArray, List.set_cons_zero, List.set_cons_succ]
      clear q1 hgr
      refine flowK_nil ⟨?_, ?_⟩
      case' refine_1 =>
        refine held_step rfl (fun K hK => ?_)
        go_simp
        refine (num_any W s 0 2 n hs).mono ?_
        rintro e w4 ⟨rfl, x4⟩
        rw [(bad_num s n).1, (bad_num s n).2.1, (bad_num s n).2.2]
        refine hK _ _ (x4.gr _) ?_
        clear hK K
        iterate 3
          refine held_yes (x4.gr _) _ rfl (fun w1 hw1 => by unfold Oper.quietAt; go_simp; rfl) ?_
          simp only [Act.put, List.setIfInBounds_toArray, List.set_cons_zero, List.set_cons_succ]
        refine held_step rfl (fun K hK => ?_)
        go_simp
        refine hK _ _ ((x4.al _).gr _) ?_
        clear hK K
        have b8 : RBox (w4.alloc (.cells #[.string { data := #[] }, .int .i64 0, .int .i64 0] 27)) w4.heap.size _ 0 0 := RBox.new w4 27 _ 0 0
        have x8 : Ext W (w4.alloc (.cells #[.string { data := #[] }, .int .i64 0, .int .i64 0] 27)) := x4.al _
        have hg8 : W.heap.size ≤ w4.heap.size := x4.size
        generalize w4.alloc (.cells #[.string { data := #[] }, .int .i64 0, .int .i64 0] 27) = w8 at *
        generalize w4.heap.size = g8 at *
        clear x4
      case' refine_2 =>
        refine held_step rfl (fun K hK => ?_)
        go_simp
        have b8 : RBox (W.alloc (.cells #[.string { data := #[] }, .int .i64 0, .int .i64 0] 27)) W.heap.size _ 0 0 := RBox.new W 27 _ 0 0
        have x8 : Ext W (W.alloc (.cells #[.string { data := #[] }, .int .i64 0, .int .i64 0] 27)) := Ext.alloc _ _
        refine hK _ _ (x8.gr _) ?_
        clear hK K
        refine held_step rfl (fun K hK => ?_)
        go_simp
        refine (num_any _ s 0 2 n hs).mono ?_
        rintro e w8 ⟨rfl, x4⟩
        rw [(bad_num s n).1, (bad_num s n).2.1, (bad_num s n).2.2]
        refine hK _ _ ((x8.trans x4).gr _) ?_
        clear hK K
        have b8 := b8.ext x4
        have x8 := x8.trans x4
        have hg8 : W.heap.size ≤ W.heap.size := Nat.le_refl _
        iterate 3
          refine held_yes (x8.gr _) _ rfl (fun w1 hw1 => by unfold Oper.quietAt; go_simp; rfl) ?_
          simp only [Act.put, List.setIfInBounds_toArray, List.set_cons_zero, List.set_cons_succ]
        obtain ⟨g8, hgg⟩ : ∃ x, x = W.heap.size := ⟨_, rfl⟩
        rw [← hgg] at b8
        rw [← hgg]
        have hg8 : W.heap.size ≤ g8 := by omega
        clear hgg x4
      all_goals
        have hwW := hx.size
        have hx8 := hx.trans x8
        have B8 := Lib.hid b8
        obtain ⟨r0, r1, r2⟩ := b8.cells
        obtain ⟨f0, f1, f2⟩ := b8.free
        clear b8
        refine held_step rfl (fun K hK => ?_)
        go_simp
        have Bg8 := Lib.hid (B8.out.put s 0 2)
        have x9 : Ext W (((w8.setCell ⟨g8, 0, none⟩ (.string s)).setCell ⟨g8, 1, none⟩ (.int .i64 0)).setCell ⟨g8, 2, none⟩ (.int .i64 2)) := Ext.set (Ext.set (Ext.set x8 hg8 _) hg8 _) hg8 _
        refine hK _ _ (x9.gr _) ?_
        clear hK K
        refine held_nil ?_
        have hc := x9.cell_some hc
        have hx := hx.trans x9
        have B5 := Lib.hid (B5.out.ext x9)
        generalize (((w8.setCell ⟨g8, 0, none⟩ (.string s)).setCell ⟨g8, 1, none⟩ (.int .i64 0)).setCell ⟨g8, 2, none⟩ (.int .i64 2)) = w9 at *
        clear x8 x9 hg8 hx8 B8 r0 r1 r2 f0 f1 f2 hwW
        go_wp2_with fail
        refine region_heldFork none [(0, true), (1, true), (2, true), (3, true), (4, true)] 5 9 [(6, true), (7, true), (8, true), (9, false), (10, false)] [(5, false), (6, true), (7, true), (8, true), (10, false)] [11] (by kernel_rfl) (by kernel_rfl) (fun _ _ d _ _ h => by cases d <;> exact h) (fun W hW => ?_)
        simp only [pick, pickF, List.getElem?_cons_zero, List.getElem?_cons_succ]
        have xW : Ext w9 W := hW ▸ Ext.drew _
        have hc := xW.cell_some hc
        have hx := hx.trans xW
        have B5 := Lib.hid (B5.out.ext xW)
        have Bg8 := Lib.hid (Bg8.out.ext xW)
        clear hW xW
        have q1 : ∀ w1, Gr none W w1 → w1.cell? _ = _ := fun w1 h => h.cell_some hc (by simp)
        have hgr := Gr.refl none W
        iterate 5
          refine heldK_yes hgr _ rfl (fun w1 hw1 => by obtain ⟨c0, c1, c2⟩ := Bg8.out.seen hw1; unfold Oper.quietAt; go_simp; rfl) ?_
          simp only [Act.put, List.setIfInBounds_toArray, List.set_cons_zero, List.set_cons_succ]
        clear q1 hgr
        refine flowK_nil ⟨?_, ?_⟩
        case' refine_1 =>
          refine held_step rfl (fun K hK => ?_)
          go_simp
          refine (text_any W s 0 2 n hs).mono ?_
          rintro e w4 ⟨rfl, x4⟩
          rw [(bad_textP s n).1, (bad_textP s n).2.1, (bad_textP s n).2.2]
          refine hK _ _ (x4.gr _) ?_
          clear hK K
          iterate 3
            refine held_yes (x4.gr _) _ rfl (fun w1 hw1 => by unfold Oper.quietAt; go_simp; rfl) ?_
            simp only [Act.put, List.setIfInBounds_toArray, List.set_cons_zero, List.set_cons_succ]
          refine held_step rfl (fun K hK => ?_)
          go_simp
          refine hK _ _ ((x4.al _).gr _) ?_
          clear hK K
          have b8 : RBox (w4.alloc (.cells #[.string { data := #[] }, .int .i64 0, .int .i64 0] 27)) w4.heap.size _ 0 0 := RBox.new w4 27 _ 0 0
          have x8 : Ext W (w4.alloc (.cells #[.string { data := #[] }, .int .i64 0, .int .i64 0] 27)) := x4.al _
          have hg8 : W.heap.size ≤ w4.heap.size := x4.size
          generalize w4.alloc (.cells #[.string { data := #[] }, .int .i64 0, .int .i64 0] 27) = w8 at *
          generalize w4.heap.size = g10 at *
          clear x4
        case' refine_2 =>
          refine held_step rfl (fun K hK => ?_)
          go_simp
          have b8 : RBox (W.alloc (.cells #[.string { data := #[] }, .int .i64 0, .int .i64 0] 27)) W.heap.size _ 0 0 := RBox.new W 27 _ 0 0
          have x8 : Ext W (W.alloc (.cells #[.string { data := #[] }, .int .i64 0, .int .i64 0] 27)) := Ext.alloc _ _
          refine hK _ _ (x8.gr _) ?_
          clear hK K
          refine held_step rfl (fun K hK => ?_)
          go_simp
          refine (text_any _ s 0 2 n hs).mono ?_
          rintro e w8 ⟨rfl, x4⟩
          rw [(bad_textP s n).1, (bad_textP s n).2.1, (bad_textP s n).2.2]
          refine hK _ _ ((x8.trans x4).gr _) ?_
          clear hK K
          have b8 := b8.ext x4
          have x8 := x8.trans x4
          have hg8 : W.heap.size ≤ W.heap.size := Nat.le_refl _
          iterate 3
            refine held_yes (x8.gr _) _ rfl (fun w1 hw1 => by unfold Oper.quietAt; go_simp; rfl) ?_
            simp only [Act.put, List.setIfInBounds_toArray, List.set_cons_zero, List.set_cons_succ]
          obtain ⟨g10, hgg⟩ : ∃ x, x = W.heap.size := ⟨_, rfl⟩
          rw [← hgg] at b8
          rw [← hgg]
          have hg8 : W.heap.size ≤ g10 := by omega
          clear hgg x4
        all_goals
          have hwW := hx.size
          have hx8 := hx.trans x8
          have B8 := Lib.hid b8
          obtain ⟨r0, r1, r2⟩ := b8.cells
          obtain ⟨f0, f1, f2⟩ := b8.free
          clear b8
          refine held_step rfl (fun K hK => ?_)
          go_simp
          have Bg10 := Lib.hid (B8.out.put s 0 2)
          have x9 : Ext W (((w8.setCell ⟨g10, 0, none⟩ (.string s)).setCell ⟨g10, 1, none⟩ (.int .i64 0)).setCell ⟨g10, 2, none⟩ (.int .i64 2)) := Ext.set (Ext.set (Ext.set x8 hg8 _) hg8 _) hg8 _
          refine hK _ _ (x9.gr _) ?_
          clear hK K
          refine held_nil ?_
          have hc := x9.cell_some hc
          have hx := hx.trans x9
          have B5 := Lib.hid (B5.out.ext x9)
          have Bg8 := Lib.hid (Bg8.out.ext x9)
          generalize (((w8.setCell ⟨g10, 0, none⟩ (.string s)).setCell ⟨g10, 1, none⟩ (.int .i64 0)).setCell ⟨g10, 2, none⟩ (.int .i64 2)) = w10 at *
          clear x8 x9 hg8 hx8 B8 r0 r1 r2 f0 f1 f2 hwW
          obtain ⟨c0, c1, c2⟩ := Bg10.out.cells
          go_wp2_with fail
          refine (rest_any _ s 0 2 hs).mono ?_
          rintro e w11 ⟨rfl, x1⟩
          rw [(bad_rest s).1, (bad_rest s).2, bad_fault]
          have B5 := Lib.hid (B5.out.ext x1)
          have hx := hx.trans x1
          clear x1 c0 c1 c2
          obtain ⟨c0, c1, c2⟩ := B5.out.cells
          have c0 := (Ext.alloc w11 (.cells #[.string s, .int .i64 0, .int .i64 2] 27)).cell_some c0
          have c1 := (Ext.alloc w11 (.cells #[.string s, .int .i64 0, .int .i64 2] 27)).cell_some c1
          have c2 := (Ext.alloc w11 (.cells #[.string s, .int .i64 0, .int .i64 2] 27)).cell_some c2
          go_wp2_with fail
          have B12 := Lib.hid (RBox.new w11 27 s 0 2)
          have hx := hx.al (.cells #[.string s, .int .i64 0, .int .i64 2] 27)
          have B5 := Lib.hid (B5.out.ext (Ext.alloc w11 (.cells #[.string s, .int .i64 0, .int .i64 2] 27)))
          generalize w11.alloc (.cells #[.string s, .int .i64 0, .int .i64 2] 27) = w12 at *
          generalize w11.heap.size = g12 at *
          refine (left_any _ s 0 2 hs).mono ?_
          rintro e w13 ⟨rfl, x1⟩
          rw [bad_left]
          have B5 := Lib.hid (B5.out.ext x1)
          have B12 := Lib.hid (B12.out.ext x1)
          have hx := hx.trans x1
          clear x1 c0 c1 c2
          obtain ⟨c0, c1, c2⟩ := B12.out.cells
          go_wp2_with fail
          refine (done_any _ s 0 2 hs).mono ?_
          rintro e w14 ⟨rfl, x1⟩
          rw [bad_done]
          have B5 := Lib.hid (B5.out.ext x1)
          have hx := hx.trans x1
          clear x1 c0 c1 c2
          go_wp2_with fail
          exact ⟨⟨j + 1, rfl, by omega, B5.out, hx⟩, by simp [intOf]; omega⟩
    · have hlt2 : ¬ (j : Int) < l.length := by omega
      clear hb5
      go_wp2_with fail
      refine (awake_any _).mono ?_
      rintro e w1 ⟨rfl, x1⟩
      go_wp2_with fail
      go_ret
      exact ⟨rfl, hx.trans x1⟩

end Go.Proofs.Ytfkfnhehbhebeaa
