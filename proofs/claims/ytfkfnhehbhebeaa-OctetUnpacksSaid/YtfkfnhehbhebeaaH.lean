/- All that is left is read. -/
import Derived.Test.YtfkfnhehbhebeaaG
namespace Go.Proofs.Ytfkfnhehbhebeaa
set_option linter.unusedSimpArgs false
set_option linter.unusedVariables false
open Go.RowKit

def restP (s : ByteArray) (p b : Int) : Int := if faultI s p b = 0 then s.size else p
def restS (s : ByteArray) (p b : Int) : ByteArray := if faultI s p b = 0 then s.extract p.toNat s.size else { data := #[] }

set_option maxRecDepth 100000 in
set_option maxHeartbeats 8000000 in
theorem rest_any (w : World) (s : ByteArray) (p b : Int) (hs : s.size ≤ 1000000) :
    Calls Try.prog 15 #[rdV s p b] w fun e w' => e = .returned (.tuple #[rdV s (restP s p b) (faultI s p b), .string (restS s p b)]) ∧ Ext w w' := by
  by_cases hf : faultI s p b = 0
  case' neg =>
    have hne : (faultI s p b != 0) = true := by simpa using hf
    have HN := Lib.hid (show restP s p b = p ∧ restS s p b = { data := #[] } from ⟨if_neg hf, if_neg hf⟩)
    clear hf
    go_enter Try.func15, Try.ntmps15
    go_wp2_with fail
    obtain ⟨w0, hw0⟩ : ∃ w0, w0 = (w.alloc (.cells #[.string s, .int .i64 p, .int .i64 b] 27)).alloc (.cells #[.string { data := #[] }, .int .i64 0, .int .i64 0] 27) := ⟨_, rfl⟩
    rw [← hw0]
    have x0 : Ext w w0 := hw0 ▸ (Ext.alloc _ _).al _
    have B2 : Hid (RBox w0 w.heap.size s p b) := Lib.hid (hw0 ▸ (RBox.new w 27 s p b).ext (Ext.alloc _ _))
    have B4 : Hid (RBox w0 (w.heap.size + 1) { data := #[] } 0 0) := Lib.hid (hw0 ▸ by simpa using RBox.new (w.alloc (.cells #[.string s, .int .i64 p, .int .i64 b] 27)) 27 { data := #[] } 0 0)
    clear hw0
    refine (fault_any _ s p b).mono ?_
    rintro e w1 ⟨rfl, xx⟩
    have B2 := Lib.hid (B2.out.ext xx)
    have B4 := Lib.hid (B4.out.ext xx)
    have x0 := x0.trans xx
    clear xx
    obtain ⟨c0, c1, c2⟩ := B2.out.cells
    go_wp2_with fail
    refine (fail_any _ s p b _).mono ?_
    rintro e w2 ⟨rfl, xx⟩
    have B2 := Lib.hid (B2.out.ext xx)
    have B4 := Lib.hid (B4.out.ext xx)
    have x0 := x0.trans xx
    clear xx
    obtain ⟨c0, c1, c2⟩ := B2.out.cells
    obtain ⟨r0, r1, r2⟩ := B4.out.cells
    obtain ⟨f0, f1, f2⟩ := B4.out.free
    go_wp2_with fail
    refine bodyPost_ret (v := .tuple #[rdV s p (faultI s p b), .string { data := #[] }]) (by simp [results, Try.results15, go_sem, f0, f1, f2, r0, r1, r2]) rfl ⟨by rw [HN.out.1, HN.out.2], ?_⟩
    repeat refine Ext.set ?_ (by omega) _
    exact x0
  case' pos =>
    obtain ⟨hb, h0, h1⟩ := fault_zero hf
    subst hb
    have HN := Lib.hid (show restP s p 0 = s.size ∧ restS s p 0 = s.extract p.toNat s.size from ⟨if_pos hf, if_pos hf⟩)
    have HF := Lib.hid hf
    clear hf
    go_enter Try.func15, Try.ntmps15
    go_wp2_with fail
    obtain ⟨w0, hw0⟩ : ∃ w0, w0 = (w.alloc (.cells #[.string s, .int .i64 p, .int .i64 0] 27)).alloc (.cells #[.string { data := #[] }, .int .i64 0, .int .i64 0] 27) := ⟨_, rfl⟩
    rw [← hw0]
    have x0 : Ext w w0 := hw0 ▸ (Ext.alloc _ _).al _
    have B2 : Hid (RBox w0 w.heap.size s p 0) := Lib.hid (hw0 ▸ (RBox.new w 27 s p 0).ext (Ext.alloc _ _))
    have B4 : Hid (RBox w0 (w.heap.size + 1) { data := #[] } 0 0) := Lib.hid (hw0 ▸ by simpa using RBox.new (w.alloc (.cells #[.string s, .int .i64 p, .int .i64 0] 27)) 27 { data := #[] } 0 0)
    clear hw0
    refine (fault_any _ s p 0).mono ?_
    rintro e w1 ⟨rfl, xx⟩
    have B2 := Lib.hid (B2.out.ext xx)
    have B4 := Lib.hid (B4.out.ext xx)
    have x0 := x0.trans xx
    clear xx
    rw [HF.out]
    obtain ⟨c0, c1, c2⟩ := B2.out.cells
    obtain ⟨k0, k1, k2⟩ := B2.out.free
    obtain ⟨r0, r1, r2⟩ := B4.out.cells
    obtain ⟨f0, f1, f2⟩ := B4.out.free
    go_wp2_with fail
    have B2 := Lib.hid (B2.out.put1 s.size)
    have B4 : Hid (RBox (w1.setCell ⟨w.heap.size, 1, none⟩ (.int .i64 s.size)) _ _ _ _) := Lib.hid (B4.out.other (by omega))
    have x0 : Ext w (w1.setCell ⟨w.heap.size, 1, none⟩ (.int .i64 s.size)) := Ext.set x0 (by omega) _
    generalize w1.setCell ⟨w.heap.size, 1, none⟩ (.int .i64 s.size) = w5 at *
    clear c0 c1 c2 k0 k1 k2 r0 r1 r2 f0 f1 f2
    refine region_held (some (w.heap.size + 1)) [(0, true), (1, true), (2, true), (3, true), (4, true), (5, false)] [6] (by kernel_rfl) (by kernel_rfl) (fun _ _ d _ _ h => by cases d <;> exact h) (fun W hW => ?_)
    simp only [pick, pickF, List.getElem?_cons_zero, List.getElem?_cons_succ]
    have B2 : Hid (RBox W _ _ _ _) := Lib.hid (hW ▸ B2.out.ext (Ext.drew _))
    have B4 : Hid (RBox W _ _ _ _) := Lib.hid (hW ▸ B4.out.ext (Ext.drew _))
    have x0 : Ext w W := hW ▸ x0.dr
    clear hW
    have hgr := Gr.refl (some (w.heap.size + 1)) W
    iterate 4
      refine held_yes hgr _ rfl (fun w1 hw1 => by obtain ⟨c0, c1, c2⟩ := B2.out.seenR (by simp) hw1; unfold Oper.quietAt; go_simp; rfl) ?_
      simp only [Act.put, List.setIfInBounds_toArray, List.set_cons_zero, List.set_cons_succ]
    refine held_yes hgr (.string (s.extract p.toNat s.size)) rfl (fun w1 hw1 => by unfold Oper.quietAt; go_simp) ?_
    simp only [Act.put, List.setIfInBounds_toArray, List.set_cons_zero, List.set_cons_succ]
    obtain ⟨r0, r1, r2⟩ := B4.out.cells
    obtain ⟨f0, f1, f2⟩ := B4.out.free
    refine held_step rfl (fun K hK => ?_)
    go_simp
    refine hK _ _ (((hgr.set _).set _).set _) ?_
    clear hK K
    refine held_nil ?_
    go_wp2_with fail
    refine bodyPost_ret (v := .tuple #[rdV s s.size 0, .string (s.extract p.toNat s.size)]) (by simp [results, Try.results15, go_sem, f0, f1, f2, r0, r1, r2]) rfl ⟨by rw [HN.out.1, HN.out.2, HF.out], ?_⟩
    repeat refine Ext.set ?_ (by omega) _
    exact x0

set_option maxRecDepth 100000 in
set_option maxHeartbeats 8000000 in
theorem rrest_any (w : World) (s : ByteArray) (p b : Int) (hs : s.size ≤ 1000000) :
    Calls Try.prog 16 #[rdV s p b] w fun e w' => e = .returned (.tuple #[rdV s (restP s p b) (faultI s p b), .string (restS s p b)]) ∧ Ext w w' := by
  by_cases hf : faultI s p b = 0
  case' neg =>
    have hne : (faultI s p b != 0) = true := by simpa using hf
    have HN := Lib.hid (show restP s p b = p ∧ restS s p b = { data := #[] } from ⟨if_neg hf, if_neg hf⟩)
    clear hf
    go_enter Try.func16, Try.ntmps16
    go_wp2_with fail
    obtain ⟨w0, hw0⟩ : ∃ w0, w0 = (w.alloc (.cells #[.string s, .int .i64 p, .int .i64 b] 23)).alloc (.cells #[.string { data := #[] }, .int .i64 0, .int .i64 0] 23) := ⟨_, rfl⟩
    rw [← hw0]
    have x0 : Ext w w0 := hw0 ▸ (Ext.alloc _ _).al _
    have B2 : Hid (RBox w0 w.heap.size s p b) := Lib.hid (hw0 ▸ (RBox.new w 23 s p b).ext (Ext.alloc _ _))
    have B4 : Hid (RBox w0 (w.heap.size + 1) { data := #[] } 0 0) := Lib.hid (hw0 ▸ by simpa using RBox.new (w.alloc (.cells #[.string s, .int .i64 p, .int .i64 b] 23)) 23 { data := #[] } 0 0)
    clear hw0
    refine (bad_any _ s p b).mono ?_
    rintro e w1 ⟨rfl, xx⟩
    have B2 := Lib.hid (B2.out.ext xx)
    have B4 := Lib.hid (B4.out.ext xx)
    have x0 := x0.trans xx
    clear xx
    obtain ⟨c0, c1, c2⟩ := B2.out.cells
    go_wp2_with fail
    refine region_held none [(0, true), (1, true), (2, false), (3, false)] [4, 5] (by kernel_rfl) (by kernel_rfl) (fun _ _ d _ _ h => by cases d <;> exact h) (fun W hW => ?_)
    simp only [pick, pickF, List.getElem?_cons_zero, List.getElem?_cons_succ]
    have B2 : Hid (RBox W _ _ _ _) := Lib.hid (hW ▸ B2.out.ext (Ext.drew _))
    have B4 : Hid (RBox W _ _ _ _) := Lib.hid (hW ▸ B4.out.ext (Ext.drew _))
    have x0 : Ext w W := hW ▸ x0.dr
    clear hW c0 c1 c2
    iterate 2
      refine held_yes (Gr.refl none W) _ rfl (fun w1 hw1 => by obtain ⟨c0, c1, c2⟩ := B2.out.seen hw1; unfold Oper.quietAt; go_simp; rfl) ?_
      simp only [Act.put, List.setIfInBounds_toArray, List.set_cons_zero, List.set_cons_succ]
    refine held_step rfl (fun K hK => ?_)
    go_simp
    refine (bad_any _ s p b).mono ?_
    rintro e w2 ⟨rfl, y2⟩
    refine hK _ _ (y2.gr _) ?_
    clear hK K
    refine held_step rfl (fun K hK => ?_)
    go_simp
    refine (with_any _ s p b _).mono ?_
    rintro e w3 ⟨rfl, y3⟩
    refine hK _ _ ((y2.trans y3).gr _) ?_
    clear hK K
    refine held_nil ?_
    have B2 := Lib.hid (B2.out.ext (y2.trans y3))
    have B4 := Lib.hid (B4.out.ext (y2.trans y3))
    have x0 := x0.trans (y2.trans y3)
    clear y2 y3
    obtain ⟨c0, c1, c2⟩ := B2.out.cells
    obtain ⟨r0, r1, r2⟩ := B4.out.cells
    obtain ⟨f0, f1, f2⟩ := B4.out.free
    go_wp2_with fail
    refine bodyPost_ret (v := .tuple #[rdV s p (faultI s p b), .string { data := #[] }]) (by simp [results, Try.results16, go_sem, f0, f1, f2, r0, r1, r2]) rfl ⟨by rw [HN.out.1, HN.out.2], ?_⟩
    repeat refine Ext.set ?_ (by omega) _
    exact x0
  case' pos =>
    obtain ⟨hb, h0, h1⟩ := fault_zero hf
    subst hb
    have HN := Lib.hid (show restP s p 0 = s.size ∧ restS s p 0 = s.extract p.toNat s.size from ⟨if_pos hf, if_pos hf⟩)
    have HF := Lib.hid hf
    clear hf
    go_enter Try.func16, Try.ntmps16
    go_wp2_with fail
    obtain ⟨w0, hw0⟩ : ∃ w0, w0 = (w.alloc (.cells #[.string s, .int .i64 p, .int .i64 0] 23)).alloc (.cells #[.string { data := #[] }, .int .i64 0, .int .i64 0] 23) := ⟨_, rfl⟩
    rw [← hw0]
    have x0 : Ext w w0 := hw0 ▸ (Ext.alloc _ _).al _
    have B2 : Hid (RBox w0 w.heap.size s p 0) := Lib.hid (hw0 ▸ (RBox.new w 23 s p 0).ext (Ext.alloc _ _))
    have B4 : Hid (RBox w0 (w.heap.size + 1) { data := #[] } 0 0) := Lib.hid (hw0 ▸ by simpa using RBox.new (w.alloc (.cells #[.string s, .int .i64 p, .int .i64 0] 23)) 23 { data := #[] } 0 0)
    clear hw0
    refine (bad_any _ s p 0).mono ?_
    rintro e w1 ⟨rfl, xx⟩
    have B2 := Lib.hid (B2.out.ext xx)
    have B4 := Lib.hid (B4.out.ext xx)
    have x0 := x0.trans xx
    clear xx
    rw [HF.out]
    obtain ⟨c0, c1, c2⟩ := B2.out.cells
    obtain ⟨k0, k1, k2⟩ := B2.out.free
    obtain ⟨r0, r1, r2⟩ := B4.out.cells
    obtain ⟨f0, f1, f2⟩ := B4.out.free
    go_wp2_with fail
    refine bodyPost_ret (v := .tuple #[rdV s s.size 0, .string (s.extract p.toNat s.size)]) (by simp [results, Try.results16, go_sem, f0, f1, f2, r0, r1, r2, c0, c1, c2, k0, k1, k2]) rfl ⟨by rw [HN.out.1, HN.out.2, HF.out], ?_⟩
    repeat refine Ext.set ?_ (by omega) _
    exact x0

end Go.Proofs.Ytfkfnhehbhebeaa
