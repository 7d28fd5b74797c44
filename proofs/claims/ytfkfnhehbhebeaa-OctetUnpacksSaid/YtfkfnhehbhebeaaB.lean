/- What went wrong with a Read. -/
import Derived.Test.YtfkfnhehbhebeaaA
namespace Go.Proofs.Ytfkfnhehbhebeaa
set_option linter.unusedSimpArgs false
set_option linter.unusedVariables false
open Go.RowKit

theorem done_form {s : ByteArray} {p b : Int} (h : faultI s p b = 0) (h2 : p < s.size) : doneI s p b = 4 := if_pos ⟨h, h2⟩
theorem done_ok {s : ByteArray} {p b : Int} (h : faultI s p b = 0) (h2 : ¬ p < s.size) : doneI s p b = 0 := (if_neg (fun x => h2 x.2)).trans h
theorem done_no {s : ByteArray} {p b : Int} (h : ¬ faultI s p b = 0) : doneI s p b = faultI s p b := if_neg (fun x => h x.1)

theorem done_any (w : World) (s : ByteArray) (p b : Int) (hs : s.size ≤ 1000000) : Calls Try.prog 20 #[rdV s p b] w fun e w' => e = .returned (.int .i64 (doneI s p b)) ∧ Ext w w' := by
  by_cases hf : faultI s p b = 0
  · obtain ⟨hb, h0, h1⟩ := fault_zero hf
    by_cases h2 : p < s.size
    case' pos => rw [done_form hf h2]
    case' neg => rw [done_ok hf h2]
    all_goals
      have HF := Lib.hid hf
      clear hf hb
      go_enter Try.func20, Try.ntmps20
      go_wp2_with fail
      refine (fault_any _ s p b).mono ?_
      rintro e w1 ⟨rfl, x1⟩
      rw [HF.out]
      have c0 : (w.alloc (.cells #[.string s, .int .i64 p, .int .i64 b] 27)).cell? ⟨w.heap.size, 0, none⟩ = some (.string s) := by simp
      have c1 : (w.alloc (.cells #[.string s, .int .i64 p, .int .i64 b] 27)).cell? ⟨w.heap.size, 1, none⟩ = some (.int .i64 p) := by simp
      have c2 : (w.alloc (.cells #[.string s, .int .i64 p, .int .i64 b] 27)).cell? ⟨w.heap.size, 2, none⟩ = some (.int .i64 b) := by simp
      have c0 := x1.cell_some c0
      have c1 := x1.cell_some c1
      have c2 := x1.cell_some c2
      have x1 := (Ext.alloc w (.cells #[.string s, .int .i64 p, .int .i64 b] 27)).trans x1
      go_wp2_with fail
      go_ret
      exact ⟨rfl, x1⟩
  · rw [done_no hf]
    have hne : (faultI s p b != 0) = true := by simpa using hf
    clear hf
    go_enter Try.func20, Try.ntmps20
    go_wp2_with fail
    refine (fault_any _ s p b).mono ?_
    rintro e w1 ⟨rfl, x1⟩
    have c0 : (w.alloc (.cells #[.string s, .int .i64 p, .int .i64 b] 27)).cell? ⟨w.heap.size, 0, none⟩ = some (.string s) := by simp
    have c1 : (w.alloc (.cells #[.string s, .int .i64 p, .int .i64 b] 27)).cell? ⟨w.heap.size, 1, none⟩ = some (.int .i64 p) := by simp
    have c2 : (w.alloc (.cells #[.string s, .int .i64 p, .int .i64 b] 27)).cell? ⟨w.heap.size, 2, none⟩ = some (.int .i64 b) := by simp
    have c0 := x1.cell_some c0
    have c1 := x1.cell_some c1
    have c2 := x1.cell_some c2
    have x1 := (Ext.alloc w (.cells #[.string s, .int .i64 p, .int .i64 b] 27)).trans x1
    go_wp2_with fail
    go_ret
    exact ⟨rfl, x1⟩

theorem rdone_any (w : World) (s : ByteArray) (p b : Int) (hs : s.size ≤ 1000000) : Calls Try.prog 21 #[rdV s p b] w fun e w' => e = .returned (.int .i64 (doneI s p b)) ∧ Ext w w' := by
  by_cases hf : faultI s p b = 0
  · obtain ⟨hb, h0, h1⟩ := fault_zero hf
    have hl := left_ok hf
    by_cases h2 : p < s.size
    case' pos =>
      rw [done_form hf h2]
      have h3 : (0 : Int) < s.size - p := by omega
    case' neg =>
      rw [done_ok hf h2]
      have h3 : ¬ (0 : Int) < s.size - p := by omega
    all_goals
      have HF := Lib.hid hf
      have HL := Lib.hid hl
      clear hf hb hl
      go_enter Try.func21, Try.ntmps21
      go_wp2_with fail
      refine (bad_any _ s p b).mono ?_
      rintro e w1 ⟨rfl, x1⟩
      rw [HF.out]
      have c0 : (w.alloc (.cells #[.string s, .int .i64 p, .int .i64 b] 23)).cell? ⟨w.heap.size, 0, none⟩ = some (.string s) := by simp
      have c1 : (w.alloc (.cells #[.string s, .int .i64 p, .int .i64 b] 23)).cell? ⟨w.heap.size, 1, none⟩ = some (.int .i64 p) := by simp
      have c2 : (w.alloc (.cells #[.string s, .int .i64 p, .int .i64 b] 23)).cell? ⟨w.heap.size, 2, none⟩ = some (.int .i64 b) := by simp
      have c0 := x1.cell_some c0
      have c1 := x1.cell_some c1
      have c2 := x1.cell_some c2
      have x1 := (Ext.alloc w (.cells #[.string s, .int .i64 p, .int .i64 b] 23)).trans x1
      go_wp2_with fail
      refine (rleft_any _ s p b hs).mono ?_
      rintro e w2 ⟨rfl, x2⟩
      rw [HL.out]
      have c0 := x2.cell_some c0
      have c1 := x2.cell_some c1
      have c2 := x2.cell_some c2
      have x1 := x1.trans x2
      go_wp2_with fail
    · refine (bad_any _ s p b).mono ?_
      rintro e w3 ⟨rfl, x3⟩
      rw [HF.out]
      go_wp2_with fail
      go_ret
      exact ⟨rfl, x1.trans x3⟩
    · go_ret
      exact ⟨rfl, x1⟩
  · rw [done_no hf]
    have hne : (faultI s p b == 0) = false := by simpa using hf
    clear hf
    go_enter Try.func21, Try.ntmps21
    go_wp2_with fail
    refine (bad_any _ s p b).mono ?_
    rintro e w1 ⟨rfl, x1⟩
    have c0 : (w.alloc (.cells #[.string s, .int .i64 p, .int .i64 b] 23)).cell? ⟨w.heap.size, 0, none⟩ = some (.string s) := by simp
    have c1 : (w.alloc (.cells #[.string s, .int .i64 p, .int .i64 b] 23)).cell? ⟨w.heap.size, 1, none⟩ = some (.int .i64 p) := by simp
    have c2 : (w.alloc (.cells #[.string s, .int .i64 p, .int .i64 b] 23)).cell? ⟨w.heap.size, 2, none⟩ = some (.int .i64 b) := by simp
    have c0 := x1.cell_some c0
    have c1 := x1.cell_some c1
    have c2 := x1.cell_some c2
    have x1 := (Ext.alloc w (.cells #[.string s, .int .i64 p, .int .i64 b] 23)).trans x1
    go_wp2_with fail
    refine (bad_any _ s p b).mono ?_
    rintro e w3 ⟨rfl, x3⟩
    go_wp2_with fail
    go_ret
    exact ⟨rfl, x1.trans x3⟩

end Go.Proofs.Ytfkfnhehbhebeaa
