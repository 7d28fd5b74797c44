/- A text is read. -/
import Derived.Test.YtfkfnhehbhebeaaD
namespace Go.Proofs.Ytfkfnhehbhebeaa
set_option linter.unusedSimpArgs false
set_option linter.unusedVariables false
open Go.RowKit

theorem RBox.seenR {w w' : World} {g : Nat} {s : ByteArray} {p b : Int} {row : Option Nat} (h : RBox w g s p b) (hn : some g ≠ row) (x : Gr row w w') : w'.cell? ⟨g, 0, none⟩ = some (.string s) ∧ w'.cell? ⟨g, 1, none⟩ = some (.int .i64 p) ∧ w'.cell? ⟨g, 2, none⟩ = some (.int .i64 b) := by
  obtain ⟨c0, c1, c2⟩ := h.cells
  exact ⟨x.cell_some c0 hn, x.cell_some c1 hn, x.cell_some c2 hn⟩

theorem num1_ok {s : ByteArray} {p b : Int} (h : numE s p b 1 = 0) : b = 0 ∧ 0 ≤ p ∧ p + 1 ≤ s.size ∧ numP s p b 1 = p + 1 ∧ numI s p b 1 = byteI s p.toNat ∧ faultI s (p + 1) 0 = 0 := by
  have hw : wideB 1 = true := rfl
  unfold numE at h
  by_cases hf : faultI s p b = 0
  · rw [if_neg (by simp [hf]), if_neg (by simp [hw])] at h
    by_cases hl : 1 ≤ leftI s p b
    · obtain ⟨hb, h0, h1⟩ := fault_zero hf
      have := left_ok hf
      refine ⟨hb, h0, by omega, if_pos ⟨hf, hw, hl⟩, ?_, ?_⟩
      · rw [show numI s p b 1 = numN s p.toNat (1 : Int).toNat from if_pos ⟨hf, hw, hl⟩]
        show 256 * 0 + byteI s (p.toNat + 0) = _
        simp
      · unfold faultI; rw [if_neg (by omega)]
    · rw [if_neg hl] at h; simp at h
  · rw [if_pos hf] at h; exact absurd h hf

theorem num1_no {s : ByteArray} {p b : Int} (h : ¬ numE s p b 1 = 0) : numP s p b 1 = p ∧ numI s p b 1 = 0 := by
  have : ¬ (faultI s p b = 0 ∧ wideB 1 = true ∧ 1 ≤ leftI s p b) := by
    intro ⟨h1, h2, h3⟩
    apply h
    unfold numE
    rw [if_neg (by simp [h1]), if_neg (by simp [h2]), if_pos h3]
  exact ⟨if_neg this, if_neg this⟩

/-- A text's reading: does it go, the place, the error, the text. -/
def textB (s : ByteArray) (p b m : Int) : Bool := decide (numE s p b 1 = 0) && decide (numI s p b 1 ≤ m) && decide (numI s p b 1 ≤ leftI s (p + 1) 0)
def textP (s : ByteArray) (p b m : Int) : Int := if textB s p b m = true then p + 1 + numI s p b 1 else p
def textE (s : ByteArray) (p b m : Int) : Int := if ¬ numE s p b 1 = 0 then numE s p b 1 else if m < numI s p b 1 then 5 else if leftI s (p + 1) 0 < numI s p b 1 then 3 else 0
def textS (s : ByteArray) (p b m : Int) : ByteArray := if textB s p b m = true then s.extract (p + 1).toNat (p + 1 + numI s p b 1).toNat else { data := #[] }

set_option maxRecDepth 100000 in
set_option maxHeartbeats 8000000 in
theorem text_any (w : World) (s : ByteArray) (p b m : Int) (hs : s.size ≤ 1000000) :
    Calls Try.prog 13 #[rdV s p b, .int .i64 m] w fun e w' => e = .returned (.tuple #[rdV s (textP s p b m) (textE s p b m), .string (textS s p b m)]) ∧ Ext w w' := by
  by_cases hE : numE s p b 1 = 0
  case' neg =>
    have hB : textB s p b m = false := by simp [textB, hE]
    have HN := Lib.hid (show textP s p b m = p ∧ textE s p b m = numE s p b 1 ∧ textS s p b m = { data := #[] } from ⟨if_neg (by simp [hB]), if_pos hE, if_neg (by simp [hB])⟩)
    have hne : (numE s p b 1 != 0) = true := by simpa using hE
    obtain ⟨q1, q2⟩ := num1_no hE
    have NC : Hid (∀ w, Calls Try.prog 11 #[rdV s p b, .int .i64 1] w fun e w' => e = .returned (.tuple #[rdV s p (numE s p b 1), .int .i64 0]) ∧ Ext w w') := Lib.hid (by
      intro w
      have h := num_any w s p b 1 hs
      rw [q1, q2] at h
      exact h)
    generalize numE s p b 1 = z at *
    clear hE hB q1 q2
    go_enter Try.func13, Try.ntmps13
    go_wp2_with fail
    obtain ⟨w0, hw0⟩ : ∃ w0, w0 = (w.alloc (.cells #[.string s, .int .i64 p, .int .i64 b] 27)).alloc (.cells #[.string { data := #[] }, .int .i64 0, .int .i64 0] 27) := ⟨_, rfl⟩
    rw [← hw0]
    have x0 : Ext w w0 := hw0 ▸ (Ext.alloc _ _).al _
    have B2 : Hid (RBox w0 w.heap.size s p b) := Lib.hid (hw0 ▸ (RBox.new w 27 s p b).ext (Ext.alloc _ _))
    have B4 : Hid (RBox w0 (w.heap.size + 1) { data := #[] } 0 0) := Lib.hid (hw0 ▸ by simpa using RBox.new (w.alloc (.cells #[.string s, .int .i64 p, .int .i64 b] 27)) 27 { data := #[] } 0 0)
    clear hw0
    refine (NC.out _).mono ?_
    rintro e w1 ⟨rfl, x1⟩
    have B2 := Lib.hid (B2.out.ext x1)
    have B4 := Lib.hid (B4.out.ext x1)
    have x0 := x0.trans x1
    clear x1
    obtain ⟨c0, c1, c2⟩ := B2.out.cells
    obtain ⟨r0, r1, r2⟩ := B4.out.cells
    obtain ⟨f0, f1, f2⟩ := B4.out.free
    have c0 := (Ext.alloc w1 (.cells #[.string s, .int .i64 p, .int .i64 z] 27)).cell_some c0
    have c1 := (Ext.alloc w1 (.cells #[.string s, .int .i64 p, .int .i64 z] 27)).cell_some c1
    have c2 := (Ext.alloc w1 (.cells #[.string s, .int .i64 p, .int .i64 z] 27)).cell_some c2
    have f0 := (Ext.alloc w1 (.cells #[.string s, .int .i64 p, .int .i64 z] 27)).free (lt_of_cell r0) f0
    have f1 := (Ext.alloc w1 (.cells #[.string s, .int .i64 p, .int .i64 z] 27)).free (lt_of_cell r1) f1
    have f2 := (Ext.alloc w1 (.cells #[.string s, .int .i64 p, .int .i64 z] 27)).free (lt_of_cell r2) f2
    have r0 := (Ext.alloc w1 (.cells #[.string s, .int .i64 p, .int .i64 z] 27)).cell_some r0
    have r1 := (Ext.alloc w1 (.cells #[.string s, .int .i64 p, .int .i64 z] 27)).cell_some r1
    have r2 := (Ext.alloc w1 (.cells #[.string s, .int .i64 p, .int .i64 z] 27)).cell_some r2
    go_wp2_with fail
    have hgl := B4.out.lt
    obtain ⟨v1, hv⟩ : ∃ v, v = w1.alloc (.cells #[.string s, .int .i64 p, .int .i64 z] 27) := ⟨_, rfl⟩
    try rw [← hv]
    try rw [← hv] at r0 r1 r2 f0 f1 f2
    have B6 : Hid (RBox v1 w1.heap.size s p z) := Lib.hid (hv ▸ RBox.new w1 27 s p z)
    have B2 : Hid (RBox v1 _ _ _ _) := Lib.hid (B2.out.ext (hv ▸ Ext.alloc w1 _))
    have B4 : Hid (RBox v1 _ _ _ _) := Lib.hid (B4.out.ext (hv ▸ Ext.alloc w1 _))
    have x0 : Ext w v1 := hv ▸ x0.al _
    have hg : w.heap.size + 1 < w1.heap.size := hgl
    generalize w1.heap.size = g6 at *
    clear hv c0 c1 c2 hgl
    refine bodyPost_ret (v := .tuple #[rdV s p z, .string { data := #[] }]) (by simp [results, Try.results13, go_sem, f0, f1, f2, r0, r1, r2]) rfl ⟨by rw [HN.out.1, HN.out.2.1, HN.out.2.2], ?_⟩
    repeat refine Ext.set ?_ (by omega) _
    exact x0
  case' pos =>
    obtain ⟨hb, h0, h1, q1, q2, hf⟩ := num1_ok hE
    have hl := left_ok hf
    subst hb
    obtain ⟨n, hn⟩ : ∃ n, n = numI s p 0 1 := ⟨_, rfl⟩
    have hbb := byte_bounds s p.toNat
    rw [← q2, ← hn] at hbb
    have NC : Hid (∀ w, Calls Try.prog 11 #[rdV s p 0, .int .i64 1] w fun e w' => e = .returned (.tuple #[rdV s (p + 1) 0, .int .i64 n]) ∧ Ext w w') := Lib.hid (by
      intro w
      have h := num_any w s p 0 1 hs
      rw [q1, ← hn, hE] at h
      exact h)
    by_cases hm : n ≤ m
    case' neg =>
      have hB : textB s p 0 m = false := by simp [textB, ← hn, hm]
      have HN := Lib.hid (show textP s p 0 m = p ∧ textE s p 0 m = 5 ∧ textS s p 0 m = { data := #[] } from ⟨if_neg (by simp [hB]), by unfold textE; rw [if_neg (by simp [hE]), if_pos (by omega)], if_neg (by simp [hB])⟩)
      have hm : m < n := by omega
      clear hE hB q1 q2 hn hl hf
      go_enter Try.func13, Try.ntmps13
      go_wp2_with fail
      obtain ⟨w0, hw0⟩ : ∃ w0, w0 = (w.alloc (.cells #[.string s, .int .i64 p, .int .i64 0] 27)).alloc (.cells #[.string { data := #[] }, .int .i64 0, .int .i64 0] 27) := ⟨_, rfl⟩
      rw [← hw0]
      have x0 : Ext w w0 := hw0 ▸ (Ext.alloc _ _).al _
      have B2 : Hid (RBox w0 w.heap.size s p 0) := Lib.hid (hw0 ▸ (RBox.new w 27 s p 0).ext (Ext.alloc _ _))
      have B4 : Hid (RBox w0 (w.heap.size + 1) { data := #[] } 0 0) := Lib.hid (hw0 ▸ by simpa using RBox.new (w.alloc (.cells #[.string s, .int .i64 p, .int .i64 0] 27)) 27 { data := #[] } 0 0)
      clear hw0
      refine (NC.out _).mono ?_
      rintro e w1 ⟨rfl, x1⟩
      have B2 := Lib.hid (B2.out.ext x1)
      have B4 := Lib.hid (B4.out.ext x1)
      have x0 := x0.trans x1
      clear x1
      obtain ⟨c0, c1, c2⟩ := B2.out.cells
      obtain ⟨r0, r1, r2⟩ := B4.out.cells
      obtain ⟨f0, f1, f2⟩ := B4.out.free
      have c0 := (Ext.alloc w1 (.cells #[.string s, .int .i64 (p + 1), .int .i64 0] 27)).cell_some c0
      have c1 := (Ext.alloc w1 (.cells #[.string s, .int .i64 (p + 1), .int .i64 0] 27)).cell_some c1
      have c2 := (Ext.alloc w1 (.cells #[.string s, .int .i64 (p + 1), .int .i64 0] 27)).cell_some c2
      have f0 := (Ext.alloc w1 (.cells #[.string s, .int .i64 (p + 1), .int .i64 0] 27)).free (lt_of_cell r0) f0
      have f1 := (Ext.alloc w1 (.cells #[.string s, .int .i64 (p + 1), .int .i64 0] 27)).free (lt_of_cell r1) f1
      have f2 := (Ext.alloc w1 (.cells #[.string s, .int .i64 (p + 1), .int .i64 0] 27)).free (lt_of_cell r2) f2
      have r0 := (Ext.alloc w1 (.cells #[.string s, .int .i64 (p + 1), .int .i64 0] 27)).cell_some r0
      have r1 := (Ext.alloc w1 (.cells #[.string s, .int .i64 (p + 1), .int .i64 0] 27)).cell_some r1
      have r2 := (Ext.alloc w1 (.cells #[.string s, .int .i64 (p + 1), .int .i64 0] 27)).cell_some r2
      go_wp2_with fail
      have hgl := B4.out.lt
      obtain ⟨v1, hv⟩ : ∃ v, v = w1.alloc (.cells #[.string s, .int .i64 (p + 1), .int .i64 0] 27) := ⟨_, rfl⟩
      try rw [← hv]
      try rw [← hv] at r0 r1 r2 f0 f1 f2
      have B6 : Hid (RBox v1 w1.heap.size s (p + 1) 0) := Lib.hid (hv ▸ RBox.new w1 27 s (p + 1) 0)
      have B2 : Hid (RBox v1 _ _ _ _) := Lib.hid (B2.out.ext (hv ▸ Ext.alloc w1 _))
      have B4 : Hid (RBox v1 _ _ _ _) := Lib.hid (B4.out.ext (hv ▸ Ext.alloc w1 _))
      have x0 : Ext w v1 := hv ▸ x0.al _
      have hg : w.heap.size + 1 < w1.heap.size := hgl
      generalize w1.heap.size = g6 at *
      clear hv c0 c1 c2 hgl
      refine (fail_any _ s p 0 5).mono ?_
      rintro e w3 ⟨rfl, xx⟩
      have B2 := Lib.hid (B2.out.ext xx)
      have B4 := Lib.hid (B4.out.ext xx)
      have B6 := Lib.hid (B6.out.ext xx)
      have x0 := x0.trans xx
      clear xx
      obtain ⟨c0, c1, c2⟩ := B2.out.cells
      obtain ⟨r0, r1, r2⟩ := B4.out.cells
      obtain ⟨f0, f1, f2⟩ := B4.out.free
      go_wp2_with fail
      refine bodyPost_ret (v := .tuple #[rdV s p 5, .string { data := #[] }]) (by simp [results, Try.results13, go_sem, f0, f1, f2, r0, r1, r2]) rfl ⟨by rw [HN.out.1, HN.out.2.1, HN.out.2.2], ?_⟩
      repeat refine Ext.set ?_ (by omega) _
      exact x0
    case' pos =>
      by_cases hk : n ≤ leftI s (p + 1) 0
      case' neg =>
        have hB : textB s p 0 m = false := by simp [textB, ← hn, hk]
        have HN := Lib.hid (show textP s p 0 m = p ∧ textE s p 0 m = 3 ∧ textS s p 0 m = { data := #[] } from ⟨if_neg (by simp [hB]), by unfold textE; rw [if_neg (by simp [hE]), if_neg (by omega), if_pos (by omega)], if_neg (by simp [hB])⟩)
        have hk : leftI s (p + 1) 0 < n := by omega
        have hm' : ¬ m < n := by omega
        clear hE hB q1 q2 hn hl hf hm
        go_enter Try.func13, Try.ntmps13
        go_wp2_with fail
        obtain ⟨w0, hw0⟩ : ∃ w0, w0 = (w.alloc (.cells #[.string s, .int .i64 p, .int .i64 0] 27)).alloc (.cells #[.string { data := #[] }, .int .i64 0, .int .i64 0] 27) := ⟨_, rfl⟩
        rw [← hw0]
        have x0 : Ext w w0 := hw0 ▸ (Ext.alloc _ _).al _
        have B2 : Hid (RBox w0 w.heap.size s p 0) := Lib.hid (hw0 ▸ (RBox.new w 27 s p 0).ext (Ext.alloc _ _))
        have B4 : Hid (RBox w0 (w.heap.size + 1) { data := #[] } 0 0) := Lib.hid (hw0 ▸ by simpa using RBox.new (w.alloc (.cells #[.string s, .int .i64 p, .int .i64 0] 27)) 27 { data := #[] } 0 0)
        clear hw0
        refine (NC.out _).mono ?_
        rintro e w1 ⟨rfl, x1⟩
        have B2 := Lib.hid (B2.out.ext x1)
        have B4 := Lib.hid (B4.out.ext x1)
        have x0 := x0.trans x1
        clear x1
        obtain ⟨c0, c1, c2⟩ := B2.out.cells
        obtain ⟨r0, r1, r2⟩ := B4.out.cells
        obtain ⟨f0, f1, f2⟩ := B4.out.free
        have c0 := (Ext.alloc w1 (.cells #[.string s, .int .i64 (p + 1), .int .i64 0] 27)).cell_some c0
        have c1 := (Ext.alloc w1 (.cells #[.string s, .int .i64 (p + 1), .int .i64 0] 27)).cell_some c1
        have c2 := (Ext.alloc w1 (.cells #[.string s, .int .i64 (p + 1), .int .i64 0] 27)).cell_some c2
        have f0 := (Ext.alloc w1 (.cells #[.string s, .int .i64 (p + 1), .int .i64 0] 27)).free (lt_of_cell r0) f0
        have f1 := (Ext.alloc w1 (.cells #[.string s, .int .i64 (p + 1), .int .i64 0] 27)).free (lt_of_cell r1) f1
        have f2 := (Ext.alloc w1 (.cells #[.string s, .int .i64 (p + 1), .int .i64 0] 27)).free (lt_of_cell r2) f2
        have r0 := (Ext.alloc w1 (.cells #[.string s, .int .i64 (p + 1), .int .i64 0] 27)).cell_some r0
        have r1 := (Ext.alloc w1 (.cells #[.string s, .int .i64 (p + 1), .int .i64 0] 27)).cell_some r1
        have r2 := (Ext.alloc w1 (.cells #[.string s, .int .i64 (p + 1), .int .i64 0] 27)).cell_some r2
        go_wp2_with fail
        have hgl := B4.out.lt
        obtain ⟨v1, hv⟩ : ∃ v, v = w1.alloc (.cells #[.string s, .int .i64 (p + 1), .int .i64 0] 27) := ⟨_, rfl⟩
        try rw [← hv]
        try rw [← hv] at r0 r1 r2 f0 f1 f2
        have B6 : Hid (RBox v1 w1.heap.size s (p + 1) 0) := Lib.hid (hv ▸ RBox.new w1 27 s (p + 1) 0)
        have B2 : Hid (RBox v1 _ _ _ _) := Lib.hid (B2.out.ext (hv ▸ Ext.alloc w1 _))
        have B4 : Hid (RBox v1 _ _ _ _) := Lib.hid (B4.out.ext (hv ▸ Ext.alloc w1 _))
        have x0 : Ext w v1 := hv ▸ x0.al _
        have hg : w.heap.size + 1 < w1.heap.size := hgl
        generalize w1.heap.size = g6 at *
        clear hv c0 c1 c2 hgl
        refine (left_any _ s (p + 1) 0 hs).mono ?_
        rintro e w3 ⟨rfl, xx⟩
        have B2 := Lib.hid (B2.out.ext xx)
        have B4 := Lib.hid (B4.out.ext xx)
        have B6 := Lib.hid (B6.out.ext xx)
        have x0 := x0.trans xx
        clear xx
        obtain ⟨c0, c1, c2⟩ := B2.out.cells
        obtain ⟨d0, d1, d2⟩ := B6.out.cells
        go_wp2_with fail
        refine (fail_any _ s p 0 3).mono ?_
        rintro e w4 ⟨rfl, xx⟩
        have B2 := Lib.hid (B2.out.ext xx)
        have B4 := Lib.hid (B4.out.ext xx)
        have B6 := Lib.hid (B6.out.ext xx)
        have x0 := x0.trans xx
        clear xx
        obtain ⟨r0, r1, r2⟩ := B4.out.cells
        obtain ⟨f0, f1, f2⟩ := B4.out.free
        go_wp2_with fail
        refine bodyPost_ret (v := .tuple #[rdV s p 3, .string { data := #[] }]) (by simp [results, Try.results13, go_sem, f0, f1, f2, r0, r1, r2]) rfl ⟨by rw [HN.out.1, HN.out.2.1, HN.out.2.2], ?_⟩
        repeat refine Ext.set ?_ (by omega) _
        exact x0
      case' pos =>
        have hB : textB s p 0 m = true := by simp [textB, ← hn, hk, hm, hE]
        have HN := Lib.hid (show textP s p 0 m = p + 1 + n ∧ textE s p 0 m = 0 ∧ textS s p 0 m = s.extract (p + 1).toNat (p + 1 + n).toNat from ⟨by unfold textP; rw [if_pos hB, hn], by unfold textE; rw [if_neg (by simp [hE]), if_neg (by omega), if_neg (by omega)], by unfold textS; rw [if_pos hB, hn]⟩)
        have hk' : ¬ leftI s (p + 1) 0 < n := by omega
        have hm' : ¬ m < n := by omega
        have hin1 : (0 : Int) ≤ p + 1 := by omega
        have hin2 : p + 1 ≤ p + 1 + n := by omega
        have hin3 : p + 1 + n ≤ s.size := by omega
        have hw1 : IntKind.i64.wrap (p + 1 + n) = p + 1 + n := IntWalk.i64_in _ (by omega)
        clear hE hB q1 q2 hn hl hf hm hk
        go_enter Try.func13, Try.ntmps13
        go_wp2_with fail
        obtain ⟨w0, hw0⟩ : ∃ w0, w0 = (w.alloc (.cells #[.string s, .int .i64 p, .int .i64 0] 27)).alloc (.cells #[.string { data := #[] }, .int .i64 0, .int .i64 0] 27) := ⟨_, rfl⟩
        rw [← hw0]
        have x0 : Ext w w0 := hw0 ▸ (Ext.alloc _ _).al _
        have B2 : Hid (RBox w0 w.heap.size s p 0) := Lib.hid (hw0 ▸ (RBox.new w 27 s p 0).ext (Ext.alloc _ _))
        have B4 : Hid (RBox w0 (w.heap.size + 1) { data := #[] } 0 0) := Lib.hid (hw0 ▸ by simpa using RBox.new (w.alloc (.cells #[.string s, .int .i64 p, .int .i64 0] 27)) 27 { data := #[] } 0 0)
        clear hw0
        refine (NC.out _).mono ?_
        rintro e w1 ⟨rfl, x1⟩
        have B2 := Lib.hid (B2.out.ext x1)
        have B4 := Lib.hid (B4.out.ext x1)
        have x0 := x0.trans x1
        clear x1
        obtain ⟨c0, c1, c2⟩ := B2.out.cells
        obtain ⟨r0, r1, r2⟩ := B4.out.cells
        obtain ⟨f0, f1, f2⟩ := B4.out.free
        have c0 := (Ext.alloc w1 (.cells #[.string s, .int .i64 (p + 1), .int .i64 0] 27)).cell_some c0
        have c1 := (Ext.alloc w1 (.cells #[.string s, .int .i64 (p + 1), .int .i64 0] 27)).cell_some c1
        have c2 := (Ext.alloc w1 (.cells #[.string s, .int .i64 (p + 1), .int .i64 0] 27)).cell_some c2
        have f0 := (Ext.alloc w1 (.cells #[.string s, .int .i64 (p + 1), .int .i64 0] 27)).free (lt_of_cell r0) f0
        have f1 := (Ext.alloc w1 (.cells #[.string s, .int .i64 (p + 1), .int .i64 0] 27)).free (lt_of_cell r1) f1
        have f2 := (Ext.alloc w1 (.cells #[.string s, .int .i64 (p + 1), .int .i64 0] 27)).free (lt_of_cell r2) f2
        have r0 := (Ext.alloc w1 (.cells #[.string s, .int .i64 (p + 1), .int .i64 0] 27)).cell_some r0
        have r1 := (Ext.alloc w1 (.cells #[.string s, .int .i64 (p + 1), .int .i64 0] 27)).cell_some r1
        have r2 := (Ext.alloc w1 (.cells #[.string s, .int .i64 (p + 1), .int .i64 0] 27)).cell_some r2
        go_wp2_with fail
        have hgl := B4.out.lt
        obtain ⟨v1, hv⟩ : ∃ v, v = w1.alloc (.cells #[.string s, .int .i64 (p + 1), .int .i64 0] 27) := ⟨_, rfl⟩
        try rw [← hv]
        try rw [← hv] at r0 r1 r2 f0 f1 f2
        have B6 : Hid (RBox v1 w1.heap.size s (p + 1) 0) := Lib.hid (hv ▸ RBox.new w1 27 s (p + 1) 0)
        have B2 : Hid (RBox v1 _ _ _ _) := Lib.hid (B2.out.ext (hv ▸ Ext.alloc w1 _))
        have B4 : Hid (RBox v1 _ _ _ _) := Lib.hid (B4.out.ext (hv ▸ Ext.alloc w1 _))
        have x0 : Ext w v1 := hv ▸ x0.al _
        have hg : w.heap.size + 1 < w1.heap.size := hgl
        generalize w1.heap.size = g6 at *
        clear hv c0 c1 c2 hgl
        refine (left_any _ s (p + 1) 0 hs).mono ?_
        rintro e w3 ⟨rfl, xx⟩
        have B2 := Lib.hid (B2.out.ext xx)
        have B4 := Lib.hid (B4.out.ext xx)
        have B6 := Lib.hid (B6.out.ext xx)
        have x0 := x0.trans xx
        clear xx
        obtain ⟨c0, c1, c2⟩ := B2.out.cells
        obtain ⟨d0, d1, d2⟩ := B6.out.cells
        obtain ⟨e0, e1, e2⟩ := B6.out.free
        have h26 := B6.out.lt
        go_wp2_with fail
        have B6 := Lib.hid (B6.out.put1 (p + 1 + n))
        have B2 : Hid (RBox (w3.setCell ⟨g6, 1, none⟩ (.int .i64 (p + 1 + n))) _ _ _ _) := Lib.hid (B2.out.other (by omega))
        have B4 : Hid (RBox (w3.setCell ⟨g6, 1, none⟩ (.int .i64 (p + 1 + n))) _ _ _ _) := Lib.hid (B4.out.other (by omega))
        have x0 : Ext w (w3.setCell ⟨g6, 1, none⟩ (.int .i64 (p + 1 + n))) := Ext.set x0 (by omega) _
        generalize w3.setCell ⟨g6, 1, none⟩ (.int .i64 (p + 1 + n)) = w5 at *
        clear c0 c1 c2 d0 d1 d2 e0 e1 e2 h26 r0 r1 r2 f0 f1 f2
        refine region_held (some (w.heap.size + 1)) [(0, true), (1, true), (2, true), (3, true), (4, true), (5, true), (6, true), (7, false)] [8] (by kernel_rfl) (by kernel_rfl) (fun _ _ d _ _ h => by cases d <;> exact h) (fun W hW => ?_)
        simp only [pick, pickF, List.getElem?_cons_zero, List.getElem?_cons_succ]
        have B2 : Hid (RBox W _ _ _ _) := Lib.hid (hW ▸ B2.out.ext (Ext.drew _))
        have B4 : Hid (RBox W _ _ _ _) := Lib.hid (hW ▸ B4.out.ext (Ext.drew _))
        have B6 : Hid (RBox W _ _ _ _) := Lib.hid (hW ▸ B6.out.ext (Ext.drew _))
        have x0 : Ext w W := hW ▸ x0.dr
        clear hW
        have hgr := Gr.refl (some (w.heap.size + 1)) W
        iterate 6
          refine held_yes hgr _ rfl (fun w1 hw1 => by obtain ⟨c0, c1, c2⟩ := B2.out.seenR (by simp) hw1; obtain ⟨d0, d1, d2⟩ := B6.out.seenR (by simp; omega) hw1; unfold Oper.quietAt; go_simp; rfl) ?_
          simp only [Act.put, List.setIfInBounds_toArray, List.set_cons_zero, List.set_cons_succ]
        refine held_yes hgr (.string (s.extract (p + 1).toNat (p + 1 + n).toNat)) rfl (fun w1 hw1 => by unfold Oper.quietAt; go_simp) ?_
        simp only [Act.put, List.setIfInBounds_toArray, List.set_cons_zero, List.set_cons_succ]
        obtain ⟨r0, r1, r2⟩ := B4.out.cells
        obtain ⟨f0, f1, f2⟩ := B4.out.free
        refine held_step rfl (fun K hK => ?_)
        go_simp
        refine hK _ _ (((hgr.set _).set _).set _) ?_
        clear hK K
        refine held_nil ?_
        go_wp2_with fail
        refine bodyPost_ret (v := .tuple #[rdV s (p + 1 + n) 0, .string (s.extract (p + 1).toNat (p + 1 + n).toNat)]) (by simp [results, Try.results13, go_sem, f0, f1, f2, r0, r1, r2]) rfl ⟨by rw [HN.out.1, HN.out.2.1, HN.out.2.2], ?_⟩
        repeat refine Ext.set ?_ (by omega) _
        exact x0
end Go.Proofs.Ytfkfnhehbhebeaa
