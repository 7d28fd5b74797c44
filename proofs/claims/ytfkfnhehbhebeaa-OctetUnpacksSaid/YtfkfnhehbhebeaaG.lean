/- A text is read, as the document says. -/
import Derived.Test.YtfkfnhehbhebeaaE
namespace Go.Proofs.Ytfkfnhehbhebeaa
set_option linter.unusedSimpArgs false
set_option linter.unusedVariables false
open Go.RowKit

theorem RBox.put {w : World} {g : Nat} {s : ByteArray} {p b : Int} (h : RBox w g s p b) (s' : ByteArray) (p' b' : Int) : RBox (((w.setCell ⟨g, 0, none⟩ (.string s')).setCell ⟨g, 1, none⟩ (.int .i64 p')).setCell ⟨g, 2, none⟩ (.int .i64 b')) g s' p' b' := by
  obtain ⟨⟨c0, c1, c2⟩, ⟨f0, f1, f2⟩⟩ := h
  exact ⟨⟨by go_simp, by go_simp, by go_simp⟩, ⟨by go_simp, by go_simp, by go_simp⟩⟩

set_option maxRecDepth 100000 in
set_option maxHeartbeats 8000000 in
theorem rtext_any (w : World) (s : ByteArray) (p b m : Int) (hs : s.size ≤ 1000000) :
    Calls Try.prog 14 #[rdV s p b, .int .i64 m] w fun e w' => e = .returned (.tuple #[rdV s (textP s p b m) (textE s p b m), .string (textS s p b m)]) ∧ Ext w w' := by
  by_cases hE : numE s p b 1 = 0
  case' neg =>
    have hB : textB s p b m = false := by simp [textB, hE]
    have HN := Lib.hid (show textP s p b m = p ∧ textE s p b m = numE s p b 1 ∧ textS s p b m = { data := #[] } from ⟨if_neg (by simp [hB]), if_pos hE, if_neg (by simp [hB])⟩)
    have hne : (numE s p b 1 != 0) = true := by simpa using hE
    obtain ⟨q1, q2⟩ := num1_no hE
    have NC : Hid (∀ w, Calls Try.prog 12 #[rdV s p b, .int .i64 1] w fun e w' => e = .returned (.tuple #[rdV s p (numE s p b 1), .int .i64 0]) ∧ Ext w w') := Lib.hid (by
      intro w
      have h := rnum_any w s p b 1 hs
      rw [q1, q2] at h
      exact h)
    generalize numE s p b 1 = z at *
    clear hE hB q1 q2
    go_enter Try.func14, Try.ntmps14
    go_wp2_with fail
    obtain ⟨w0, hw0⟩ : ∃ w0, w0 = ((w.alloc (.cells #[.string s, .int .i64 p, .int .i64 b] 23)).alloc (.cells #[.string { data := #[] }, .int .i64 0, .int .i64 0] 23)).alloc (.cells #[.string s, .int .i64 p, .int .i64 b] 23) := ⟨_, rfl⟩
    rw [← hw0]
    have x0 : Ext w w0 := hw0 ▸ ((Ext.alloc _ _).al _).al _
    have B2 : Hid (RBox w0 w.heap.size s p b) := Lib.hid (hw0 ▸ (RBox.new w 23 s p b).ext ((Ext.alloc _ _).al _))
    have B4 : Hid (RBox w0 (w.heap.size + 1) { data := #[] } 0 0) := Lib.hid (hw0 ▸ by simpa using (RBox.new (w.alloc (.cells #[.string s, .int .i64 p, .int .i64 b] 23)) 23 { data := #[] } 0 0).ext (Ext.alloc _ _))
    have B6 : Hid (RBox w0 (w.heap.size + 1 + 1) s p b) := Lib.hid (hw0 ▸ by simpa using RBox.new ((w.alloc (.cells #[.string s, .int .i64 p, .int .i64 b] 23)).alloc (.cells #[.string { data := #[] }, .int .i64 0, .int .i64 0] 23)) 23 s p b)
    clear hw0
    refine (NC.out _).mono ?_
    rintro e w1 ⟨rfl, x1⟩
    have B2 := Lib.hid (B2.out.ext x1)
    have B4 := Lib.hid (B4.out.ext x1)
    have B6 := Lib.hid (B6.out.ext x1)
    have x0 := x0.trans x1
    clear x1
    obtain ⟨c0, c1, c2⟩ := B2.out.cells
    obtain ⟨k0, k1, k2⟩ := B2.out.free
    obtain ⟨d0, d1, d2⟩ := B6.out.cells
    obtain ⟨r0, r1, r2⟩ := B4.out.cells
    obtain ⟨f0, f1, f2⟩ := B4.out.free
    go_wp2_with fail
    refine bodyPost_ret (v := .tuple #[rdV s p z, .string { data := #[] }]) (by simp [results, Try.results14, go_sem, f0, f1, f2, r0, r1, r2]) rfl ⟨by rw [HN.out.1, HN.out.2.1, HN.out.2.2], ?_⟩
    repeat refine Ext.set ?_ (by omega) _
    exact x0
  case' pos =>
    obtain ⟨hb, h0, h1, q1, q2, hf⟩ := num1_ok hE
    have hl := left_ok hf
    subst hb
    obtain ⟨n, hn⟩ : ∃ n, n = numI s p 0 1 := ⟨_, rfl⟩
    have hbb := byte_bounds s p.toNat
    rw [← q2, ← hn] at hbb
    have NC : Hid (∀ w, Calls Try.prog 12 #[rdV s p 0, .int .i64 1] w fun e w' => e = .returned (.tuple #[rdV s (p + 1) 0, .int .i64 n]) ∧ Ext w w') := Lib.hid (by
      intro w
      have h := rnum_any w s p 0 1 hs
      rw [q1, ← hn, hE] at h
      exact h)
    by_cases hm : n ≤ m
    case' neg =>
      have hB : textB s p 0 m = false := by simp [textB, ← hn, hm]
      have HN := Lib.hid (show textP s p 0 m = p ∧ textE s p 0 m = 5 ∧ textS s p 0 m = { data := #[] } from ⟨if_neg (by simp [hB]), by unfold textE; rw [if_neg (by simp [hE]), if_pos (by omega)], if_neg (by simp [hB])⟩)
      have hm : m < n := by omega
      clear hE hB q1 q2 hn hl hf
      go_enter Try.func14, Try.ntmps14
      go_wp2_with fail
      obtain ⟨w0, hw0⟩ : ∃ w0, w0 = ((w.alloc (.cells #[.string s, .int .i64 p, .int .i64 0] 23)).alloc (.cells #[.string { data := #[] }, .int .i64 0, .int .i64 0] 23)).alloc (.cells #[.string s, .int .i64 p, .int .i64 0] 23) := ⟨_, rfl⟩
      rw [← hw0]
      have x0 : Ext w w0 := hw0 ▸ ((Ext.alloc _ _).al _).al _
      have B2 : Hid (RBox w0 w.heap.size s p 0) := Lib.hid (hw0 ▸ (RBox.new w 23 s p 0).ext ((Ext.alloc _ _).al _))
      have B4 : Hid (RBox w0 (w.heap.size + 1) { data := #[] } 0 0) := Lib.hid (hw0 ▸ by simpa using (RBox.new (w.alloc (.cells #[.string s, .int .i64 p, .int .i64 0] 23)) 23 { data := #[] } 0 0).ext (Ext.alloc _ _))
      have B6 : Hid (RBox w0 (w.heap.size + 1 + 1) s p 0) := Lib.hid (hw0 ▸ by simpa using RBox.new ((w.alloc (.cells #[.string s, .int .i64 p, .int .i64 0] 23)).alloc (.cells #[.string { data := #[] }, .int .i64 0, .int .i64 0] 23)) 23 s p 0)
      clear hw0
      refine (NC.out _).mono ?_
      rintro e w1 ⟨rfl, x1⟩
      have B2 := Lib.hid (B2.out.ext x1)
      have B4 := Lib.hid (B4.out.ext x1)
      have B6 := Lib.hid (B6.out.ext x1)
      have x0 := x0.trans x1
      clear x1
      obtain ⟨c0, c1, c2⟩ := B2.out.cells
      obtain ⟨k0, k1, k2⟩ := B2.out.free
      obtain ⟨d0, d1, d2⟩ := B6.out.cells
      obtain ⟨r0, r1, r2⟩ := B4.out.cells
      obtain ⟨f0, f1, f2⟩ := B4.out.free
      go_wp2_with fail
      have B2 := Lib.hid (B2.out.put s (p + 1) 0)
      have B4 : Hid (RBox (((w1.setCell ⟨w.heap.size, 0, none⟩ (.string s)).setCell ⟨w.heap.size, 1, none⟩ (.int .i64 (p + 1))).setCell ⟨w.heap.size, 2, none⟩ (.int .i64 0)) _ _ _ _) := Lib.hid (((B4.out.other (by omega)).other (by omega)).other (by omega))
      have B6 : Hid (RBox (((w1.setCell ⟨w.heap.size, 0, none⟩ (.string s)).setCell ⟨w.heap.size, 1, none⟩ (.int .i64 (p + 1))).setCell ⟨w.heap.size, 2, none⟩ (.int .i64 0)) _ _ _ _) := Lib.hid (((B6.out.other (by omega)).other (by omega)).other (by omega))
      have x0 : Ext w (((w1.setCell ⟨w.heap.size, 0, none⟩ (.string s)).setCell ⟨w.heap.size, 1, none⟩ (.int .i64 (p + 1))).setCell ⟨w.heap.size, 2, none⟩ (.int .i64 0)) := Ext.set (Ext.set (Ext.set x0 (by omega) _) (by omega) _) (by omega) _
      generalize ((w1.setCell ⟨w.heap.size, 0, none⟩ (.string s)).setCell ⟨w.heap.size, 1, none⟩ (.int .i64 (p + 1))).setCell ⟨w.heap.size, 2, none⟩ (.int .i64 0) = v1 at *
      clear c0 c1 c2 k0 k1 k2 d0 d1 d2 r0 r1 r2 f0 f1 f2
      refine (with_any _ s p 0 5).mono ?_
      rintro e w3 ⟨rfl, xx⟩
      have B2 := Lib.hid (B2.out.ext xx)
      have B4 := Lib.hid (B4.out.ext xx)
      have B6 := Lib.hid (B6.out.ext xx)
      have x0 := x0.trans xx
      clear xx
      obtain ⟨c0, c1, c2⟩ := B2.out.cells
      obtain ⟨r0, r1, r2⟩ := B4.out.cells
      obtain ⟨f0, f1, f2⟩ := B4.out.free
      go_wp2_with fail
      refine bodyPost_ret (v := .tuple #[rdV s p 5, .string { data := #[] }]) (by simp [results, Try.results14, go_sem, f0, f1, f2, r0, r1, r2]) rfl ⟨by rw [HN.out.1, HN.out.2.1, HN.out.2.2], ?_⟩
      repeat refine Ext.set ?_ (by omega) _
      exact x0
    case' pos =>
      by_cases hk : n ≤ leftI s (p + 1) 0
      case' neg =>
        have hB : textB s p 0 m = false := by simp [textB, ← hn, hk]
        have HN := Lib.hid (show textP s p 0 m = p ∧ textE s p 0 m = 3 ∧ textS s p 0 m = { data := #[] } from ⟨if_neg (by simp [hB]), by unfold textE; rw [if_neg (by simp [hE]), if_neg (by omega), if_pos (by omega)], if_neg (by simp [hB])⟩)
        have hk : leftI s (p + 1) 0 < n := by omega
        have hm' : ¬ m < n := by omega
        clear hE hB q1 q2 hn hl hf hm
        go_enter Try.func14, Try.ntmps14
        go_wp2_with fail
        obtain ⟨w0, hw0⟩ : ∃ w0, w0 = ((w.alloc (.cells #[.string s, .int .i64 p, .int .i64 0] 23)).alloc (.cells #[.string { data := #[] }, .int .i64 0, .int .i64 0] 23)).alloc (.cells #[.string s, .int .i64 p, .int .i64 0] 23) := ⟨_, rfl⟩
        rw [← hw0]
        have x0 : Ext w w0 := hw0 ▸ ((Ext.alloc _ _).al _).al _
        have B2 : Hid (RBox w0 w.heap.size s p 0) := Lib.hid (hw0 ▸ (RBox.new w 23 s p 0).ext ((Ext.alloc _ _).al _))
        have B4 : Hid (RBox w0 (w.heap.size + 1) { data := #[] } 0 0) := Lib.hid (hw0 ▸ by simpa using (RBox.new (w.alloc (.cells #[.string s, .int .i64 p, .int .i64 0] 23)) 23 { data := #[] } 0 0).ext (Ext.alloc _ _))
        have B6 : Hid (RBox w0 (w.heap.size + 1 + 1) s p 0) := Lib.hid (hw0 ▸ by simpa using RBox.new ((w.alloc (.cells #[.string s, .int .i64 p, .int .i64 0] 23)).alloc (.cells #[.string { data := #[] }, .int .i64 0, .int .i64 0] 23)) 23 s p 0)
        clear hw0
        refine (NC.out _).mono ?_
        rintro e w1 ⟨rfl, x1⟩
        have B2 := Lib.hid (B2.out.ext x1)
        have B4 := Lib.hid (B4.out.ext x1)
        have B6 := Lib.hid (B6.out.ext x1)
        have x0 := x0.trans x1
        clear x1
        obtain ⟨c0, c1, c2⟩ := B2.out.cells
        obtain ⟨k0, k1, k2⟩ := B2.out.free
        obtain ⟨d0, d1, d2⟩ := B6.out.cells
        obtain ⟨r0, r1, r2⟩ := B4.out.cells
        obtain ⟨f0, f1, f2⟩ := B4.out.free
        go_wp2_with fail
        have B2 := Lib.hid (B2.out.put s (p + 1) 0)
        have B4 : Hid (RBox (((w1.setCell ⟨w.heap.size, 0, none⟩ (.string s)).setCell ⟨w.heap.size, 1, none⟩ (.int .i64 (p + 1))).setCell ⟨w.heap.size, 2, none⟩ (.int .i64 0)) _ _ _ _) := Lib.hid (((B4.out.other (by omega)).other (by omega)).other (by omega))
        have B6 : Hid (RBox (((w1.setCell ⟨w.heap.size, 0, none⟩ (.string s)).setCell ⟨w.heap.size, 1, none⟩ (.int .i64 (p + 1))).setCell ⟨w.heap.size, 2, none⟩ (.int .i64 0)) _ _ _ _) := Lib.hid (((B6.out.other (by omega)).other (by omega)).other (by omega))
        have x0 : Ext w (((w1.setCell ⟨w.heap.size, 0, none⟩ (.string s)).setCell ⟨w.heap.size, 1, none⟩ (.int .i64 (p + 1))).setCell ⟨w.heap.size, 2, none⟩ (.int .i64 0)) := Ext.set (Ext.set (Ext.set x0 (by omega) _) (by omega) _) (by omega) _
        generalize ((w1.setCell ⟨w.heap.size, 0, none⟩ (.string s)).setCell ⟨w.heap.size, 1, none⟩ (.int .i64 (p + 1))).setCell ⟨w.heap.size, 2, none⟩ (.int .i64 0) = v1 at *
        clear c0 c1 c2 k0 k1 k2 d0 d1 d2 r0 r1 r2 f0 f1 f2
        refine (rleft_any _ s (p + 1) 0 hs).mono ?_
        rintro e w3 ⟨rfl, xx⟩
        have B2 := Lib.hid (B2.out.ext xx)
        have B4 := Lib.hid (B4.out.ext xx)
        have B6 := Lib.hid (B6.out.ext xx)
        have x0 := x0.trans xx
        clear xx
        obtain ⟨c0, c1, c2⟩ := B2.out.cells
        obtain ⟨d0, d1, d2⟩ := B6.out.cells
        go_wp2_with fail
        refine (with_any _ s p 0 3).mono ?_
        rintro e w4 ⟨rfl, xx⟩
        have B2 := Lib.hid (B2.out.ext xx)
        have B4 := Lib.hid (B4.out.ext xx)
        have B6 := Lib.hid (B6.out.ext xx)
        have x0 := x0.trans xx
        clear xx
        obtain ⟨r0, r1, r2⟩ := B4.out.cells
        obtain ⟨f0, f1, f2⟩ := B4.out.free
        go_wp2_with fail
        refine bodyPost_ret (v := .tuple #[rdV s p 3, .string { data := #[] }]) (by simp [results, Try.results14, go_sem, f0, f1, f2, r0, r1, r2]) rfl ⟨by rw [HN.out.1, HN.out.2.1, HN.out.2.2], ?_⟩
        repeat refine Ext.set ?_ (by omega) _
        exact x0
      case' pos =>
        have hB : textB s p 0 m = true := by simp [textB, ← hn, hk, hm, hE]
        have HN := Lib.hid (show textP s p 0 m = p + 1 + n ∧ textE s p 0 m = 0 ∧ textS s p 0 m = s.extract (p + 1).toNat (p + 1 + n).toNat from ⟨by unfold textP; rw [if_pos hB, hn], by unfold textE; rw [if_neg (by simp [hE]), if_neg (by omega), if_neg (by omega)], by unfold textS; rw [if_pos hB, hn]⟩)
        have hk' : ¬ leftI s (p + 1) 0 < n := by omega
        have hm' : ¬ m < n := by omega
        have hin1 : (0 : Int) ≤ p + 1 := by omega
        have hin2 : p + 1 ≤ p + 1 + n := by omega
        have hin3 : p + 1 + n ≤ s.size := by omega
        have hw1 : IntKind.i64.wrap (p + 1 + n) = p + 1 + n := IntWalk.i64_in _ (by omega)
        clear hE hB q1 q2 hn hl hf hm hk
        go_enter Try.func14, Try.ntmps14
        go_wp2_with fail
        obtain ⟨w0, hw0⟩ : ∃ w0, w0 = ((w.alloc (.cells #[.string s, .int .i64 p, .int .i64 0] 23)).alloc (.cells #[.string { data := #[] }, .int .i64 0, .int .i64 0] 23)).alloc (.cells #[.string s, .int .i64 p, .int .i64 0] 23) := ⟨_, rfl⟩
        rw [← hw0]
        have x0 : Ext w w0 := hw0 ▸ ((Ext.alloc _ _).al _).al _
        have B2 : Hid (RBox w0 w.heap.size s p 0) := Lib.hid (hw0 ▸ (RBox.new w 23 s p 0).ext ((Ext.alloc _ _).al _))
        have B4 : Hid (RBox w0 (w.heap.size + 1) { data := #[] } 0 0) := Lib.hid (hw0 ▸ by simpa using (RBox.new (w.alloc (.cells #[.string s, .int .i64 p, .int .i64 0] 23)) 23 { data := #[] } 0 0).ext (Ext.alloc _ _))
        have B6 : Hid (RBox w0 (w.heap.size + 1 + 1) s p 0) := Lib.hid (hw0 ▸ by simpa using RBox.new ((w.alloc (.cells #[.string s, .int .i64 p, .int .i64 0] 23)).alloc (.cells #[.string { data := #[] }, .int .i64 0, .int .i64 0] 23)) 23 s p 0)
        clear hw0
        refine (NC.out _).mono ?_
        rintro e w1 ⟨rfl, x1⟩
        have B2 := Lib.hid (B2.out.ext x1)
        have B4 := Lib.hid (B4.out.ext x1)
        have B6 := Lib.hid (B6.out.ext x1)
        have x0 := x0.trans x1
        clear x1
        obtain ⟨c0, c1, c2⟩ := B2.out.cells
        obtain ⟨k0, k1, k2⟩ := B2.out.free
        obtain ⟨d0, d1, d2⟩ := B6.out.cells
        obtain ⟨r0, r1, r2⟩ := B4.out.cells
        obtain ⟨f0, f1, f2⟩ := B4.out.free
        go_wp2_with fail
        have B2 := Lib.hid (B2.out.put s (p + 1) 0)
        have B4 : Hid (RBox (((w1.setCell ⟨w.heap.size, 0, none⟩ (.string s)).setCell ⟨w.heap.size, 1, none⟩ (.int .i64 (p + 1))).setCell ⟨w.heap.size, 2, none⟩ (.int .i64 0)) _ _ _ _) := Lib.hid (((B4.out.other (by omega)).other (by omega)).other (by omega))
        have B6 : Hid (RBox (((w1.setCell ⟨w.heap.size, 0, none⟩ (.string s)).setCell ⟨w.heap.size, 1, none⟩ (.int .i64 (p + 1))).setCell ⟨w.heap.size, 2, none⟩ (.int .i64 0)) _ _ _ _) := Lib.hid (((B6.out.other (by omega)).other (by omega)).other (by omega))
        have x0 : Ext w (((w1.setCell ⟨w.heap.size, 0, none⟩ (.string s)).setCell ⟨w.heap.size, 1, none⟩ (.int .i64 (p + 1))).setCell ⟨w.heap.size, 2, none⟩ (.int .i64 0)) := Ext.set (Ext.set (Ext.set x0 (by omega) _) (by omega) _) (by omega) _
        generalize ((w1.setCell ⟨w.heap.size, 0, none⟩ (.string s)).setCell ⟨w.heap.size, 1, none⟩ (.int .i64 (p + 1))).setCell ⟨w.heap.size, 2, none⟩ (.int .i64 0) = v1 at *
        clear c0 c1 c2 k0 k1 k2 d0 d1 d2 r0 r1 r2 f0 f1 f2
        refine (rleft_any _ s (p + 1) 0 hs).mono ?_
        rintro e w3 ⟨rfl, xx⟩
        have B2 := Lib.hid (B2.out.ext xx)
        have B4 := Lib.hid (B4.out.ext xx)
        have B6 := Lib.hid (B6.out.ext xx)
        have x0 := x0.trans xx
        clear xx
        obtain ⟨c0, c1, c2⟩ := B2.out.cells
        obtain ⟨k0, k1, k2⟩ := B2.out.free
        obtain ⟨r0, r1, r2⟩ := B4.out.cells
        obtain ⟨f0, f1, f2⟩ := B4.out.free
        go_wp2_with fail
        refine bodyPost_ret (v := .tuple #[rdV s (p + 1 + n) 0, .string (s.extract (p + 1).toNat (p + 1 + n).toNat)]) (by simp [results, Try.results14, go_sem, f0, f1, f2, r0, r1, r2]) rfl ⟨by rw [HN.out.1, HN.out.2.1, HN.out.2.2], ?_⟩
        repeat refine Ext.set ?_ (by omega) _
        exact x0
end Go.Proofs.Ytfkfnhehbhebeaa
