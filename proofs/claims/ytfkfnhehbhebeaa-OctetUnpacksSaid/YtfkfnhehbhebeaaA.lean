/- What is wrong with a Read, which numbers are widths, how much is left. -/
import Derived.Test.YtfkfnhehbhebeaaBase
namespace Go.Proofs.Ytfkfnhehbhebeaa
set_option linter.unusedSimpArgs false
set_option linter.unusedVariables false
open Go.RowKit

abbrev rdV (s : ByteArray) (p b : Int) : Value := .agg #[.string s, .int .i64 p, .int .i64 b]

def faultI (s : ByteArray) (p b : Int) : Int := if b = 0 ∧ (p < 0 ∨ (s.size : Int) < p) then 2 else b
def wideB (n : Int) : Bool := n == 1 || n == 2 || n == 4 || n == 6
def leftI (s : ByteArray) (p b : Int) : Int := if faultI s p b = 0 then s.size - p else 0
def doneI (s : ByteArray) (p b : Int) : Int := if faultI s p b = 0 ∧ p < s.size then 4 else faultI s p b

theorem fault_zero {s : ByteArray} {p b : Int} (h : faultI s p b = 0) : b = 0 ∧ 0 ≤ p ∧ p ≤ s.size := by
  unfold faultI at h
  split at h
  · simp at h
  · omega

theorem left_ok {s : ByteArray} {p b : Int} (h : faultI s p b = 0) : leftI s p b = s.size - p := if_pos h
theorem left_no {s : ByteArray} {p b : Int} (h : ¬ faultI s p b = 0) : leftI s p b = 0 := if_neg h

theorem fault_any (w : World) (s : ByteArray) (p b : Int) : Calls Try.prog 33 #[rdV s p b] w fun e w' => e = .returned (.int .i64 (faultI s p b)) ∧ Ext w w' := by
  by_cases hb : b = 0
  · subst hb
    by_cases h1 : p < 0
    · have e : faultI s p 0 = 2 := by unfold faultI; simp [h1]
      rw [e]
      go_enter Try.func33, Try.ntmps33
      go_wp2_with fail
      go_ret
      exact ⟨rfl, Ext.alloc _ _⟩
    · by_cases h2 : (s.size : Int) < p
      · have e : faultI s p 0 = 2 := by unfold faultI; simp [h2]
        rw [e]
        go_enter Try.func33, Try.ntmps33
        go_wp2_with fail
        go_ret
        exact ⟨rfl, Ext.alloc _ _⟩
      · have e : faultI s p 0 = 0 := by unfold faultI; simp [h1, h2]
        rw [e]
        go_enter Try.func33, Try.ntmps33
        go_wp2_with fail
        go_ret
        exact ⟨rfl, Ext.alloc _ _⟩
  · have e : faultI s p b = b := by unfold faultI; simp [hb]
    rw [e]
    go_enter Try.func33, Try.ntmps33
    go_wp2_with fail
    go_ret
    exact ⟨rfl, Ext.alloc _ _⟩

theorem bad_any (w : World) (s : ByteArray) (p b : Int) : Calls Try.prog 36 #[rdV s p b] w fun e w' => e = .returned (.int .i64 (faultI s p b)) ∧ Ext w w' := by
  by_cases hb : b = 0
  · subst hb
    by_cases h1 : p < 0
    · have e : faultI s p 0 = 2 := by unfold faultI; simp [h1]
      rw [e]
      go_enter Try.func36, Try.ntmps36
      go_wp2_with fail
      go_ret
      exact ⟨rfl, Ext.alloc _ _⟩
    · by_cases h2 : (s.size : Int) < p
      · have e : faultI s p 0 = 2 := by unfold faultI; simp [h2]
        rw [e]
        go_enter Try.func36, Try.ntmps36
        go_wp2_with fail
        go_ret
        exact ⟨rfl, Ext.alloc _ _⟩
      · have e : faultI s p 0 = 0 := by unfold faultI; simp [h1, h2]
        rw [e]
        go_enter Try.func36, Try.ntmps36
        go_wp2_with fail
        go_ret
        exact ⟨rfl, Ext.alloc _ _⟩
  · have e : faultI s p b = b := by unfold faultI; simp [hb]
    rw [e]
    go_enter Try.func36, Try.ntmps36
    go_wp2_with fail
    go_ret
    exact ⟨rfl, Ext.alloc _ _⟩

theorem fail_any (w : World) (s : ByteArray) (p b e : Int) : Calls Try.prog 34 #[rdV s p b, .int .i64 e] w fun x w' => x = .returned (rdV s p e) ∧ Ext w w' := by
  go_enter Try.func34, Try.ntmps34
  go_wp2_with fail
  refine bodyPost_ret (v := rdV s p e) (by simp [results, Try.results34, go_sem]) rfl ⟨rfl, (Ext.alloc _ _).al _⟩

theorem with_any (w : World) (s : ByteArray) (p b e : Int) : Calls Try.prog 37 #[rdV s p b, .int .i64 e] w fun x w' => x = .returned (rdV s p e) ∧ Ext w w' := by
  go_enter Try.func37, Try.ntmps37
  go_wp2_with fail
  refine bodyPost_ret (v := rdV s p e) (by simp [results, Try.results37, go_sem]) rfl ⟨rfl, (Ext.alloc _ _).al _⟩

theorem wide_any (w : World) (n : Int) : Calls Try.prog 35 #[.int .i64 n] w fun e w' => e = .returned (.bool (wideB n)) ∧ w' = w := by
  by_cases h1 : n = 1
  · subst h1
    go_enter Try.func35, Try.ntmps35
    go_wp2_with fail
    go_ret
    exact ⟨rfl, rfl⟩
  by_cases h2 : n = 2
  · subst h2
    go_enter Try.func35, Try.ntmps35
    go_wp2_with fail
    go_ret
    exact ⟨rfl, rfl⟩
  by_cases h4 : n = 4
  · subst h4
    go_enter Try.func35, Try.ntmps35
    go_wp2_with fail
    go_ret
    exact ⟨rfl, rfl⟩
  by_cases h6 : n = 6
  · subst h6
    go_enter Try.func35, Try.ntmps35
    go_wp2_with fail
    go_ret
    exact ⟨rfl, rfl⟩
  have e : wideB n = false := by simp [wideB, h1, h2, h4, h6]
  rw [e]
  go_enter Try.func35, Try.ntmps35
  go_wp2_with fail
  go_ret
  exact ⟨rfl, rfl⟩

theorem rwide_any (w : World) (n : Int) : Calls Try.prog 38 #[.int .i64 n] w fun e w' => e = .returned (.bool (wideB n)) ∧ w' = w := by
  by_cases h1 : n = 1
  · subst h1
    go_enter Try.func38, Try.ntmps38
    go_wp2_with fail
    go_ret
    exact ⟨rfl, rfl⟩
  by_cases h2 : n = 2
  · subst h2
    go_enter Try.func38, Try.ntmps38
    go_wp2_with fail
    go_ret
    exact ⟨rfl, rfl⟩
  by_cases h4 : n = 4
  · subst h4
    go_enter Try.func38, Try.ntmps38
    go_wp2_with fail
    go_ret
    exact ⟨rfl, rfl⟩
  by_cases h6 : n = 6
  · subst h6
    go_enter Try.func38, Try.ntmps38
    go_wp2_with fail
    go_ret
    exact ⟨rfl, rfl⟩
  have e : wideB n = false := by simp [wideB, h1, h2, h4, h6]
  clear e
  go_enter Try.func38, Try.ntmps38
  go_wp2_with fail
  go_ret
  exact ⟨rfl, rfl⟩

theorem left_any (w : World) (s : ByteArray) (p b : Int) (hs : s.size ≤ 1000000) : Calls Try.prog 18 #[rdV s p b] w fun e w' => e = .returned (.int .i64 (leftI s p b)) ∧ Ext w w' := by
  by_cases hf : faultI s p b = 0
  · rw [left_ok hf]
    obtain ⟨hb, h0, h1⟩ := fault_zero hf
    have HF := Lib.hid hf
    clear hf hb
    go_enter Try.func18, Try.ntmps18
    go_wp2_with fail
    refine (fault_any _ s p b).mono ?_
    rintro e w1 ⟨rfl, x1⟩
    rw [HF.out]
    have c0 : (w.alloc (.cells #[.string s, .int .i64 p, .int .i64 b] 27)).cell? ⟨w.heap.size, 0, none⟩ = some (.string s) := by simp
    have c1 : (w.alloc (.cells #[.string s, .int .i64 p, .int .i64 b] 27)).cell? ⟨w.heap.size, 1, none⟩ = some (.int .i64 p) := by simp
    have c0 := x1.cell_some c0
    have c1 := x1.cell_some c1
    have x1 := (Ext.alloc _ _).trans x1
    go_wp2_with fail
    go_ret
    exact ⟨rfl, x1⟩
  · rw [left_no hf]
    have hne : (faultI s p b != 0) = true := by simpa using hf
    go_enter Try.func18, Try.ntmps18
    go_wp2_with fail
    refine (fault_any _ s p b).mono ?_
    rintro e w1 ⟨rfl, x1⟩
    have hne' : (faultI s p b != 0) = true := hne
    have x1 := (Ext.alloc _ _).trans x1
    clear hf
    go_wp2_with fail
    go_ret
    exact ⟨rfl, x1⟩

theorem rleft_any (w : World) (s : ByteArray) (p b : Int) (hs : s.size ≤ 1000000) : Calls Try.prog 19 #[rdV s p b] w fun e w' => e = .returned (.int .i64 (leftI s p b)) ∧ Ext w w' := by
  by_cases hf : faultI s p b = 0
  · rw [left_ok hf]
    obtain ⟨hb, h0, h1⟩ := fault_zero hf
    have HF := Lib.hid hf
    clear hf hb
    go_enter Try.func19, Try.ntmps19
    go_wp2_with fail
    refine (bad_any _ s p b).mono ?_
    rintro e w1 ⟨rfl, x1⟩
    rw [HF.out]
    have c0 : (w.alloc (.cells #[.string s, .int .i64 p, .int .i64 b] 23)).cell? ⟨w.heap.size, 0, none⟩ = some (.string s) := by simp
    have c1 : (w.alloc (.cells #[.string s, .int .i64 p, .int .i64 b] 23)).cell? ⟨w.heap.size, 1, none⟩ = some (.int .i64 p) := by simp
    have c0 := x1.cell_some c0
    have c1 := x1.cell_some c1
    have x1 := (Ext.alloc _ _).trans x1
    go_wp2_with fail
    go_ret
    exact ⟨rfl, x1⟩
  · rw [left_no hf]
    have hne : (faultI s p b != 0) = true := by simpa using hf
    go_enter Try.func19, Try.ntmps19
    go_wp2_with fail
    refine (bad_any _ s p b).mono ?_
    rintro e w1 ⟨rfl, x1⟩
    have hne' : (faultI s p b != 0) = true := hne
    have x1 := (Ext.alloc _ _).trans x1
    clear hf
    go_wp2_with fail
    go_ret
    exact ⟨rfl, x1⟩

theorem open_any (w : World) (s : ByteArray) : Calls Try.prog 22 #[.string s] w fun x w' => x = .returned (rdV s 0 0) ∧ Ext w w' := by
  go_enter Try.func22, Try.ntmps22
  go_wp2_with fail
  refine bodyPost_ret (v := rdV s 0 0) (by simp [results, Try.results22, go_sem]) rfl ⟨rfl, Ext.alloc _ _⟩

theorem ropen_any (w : World) (s : ByteArray) : Calls Try.prog 23 #[.string s] w fun x w' => x = .returned (rdV s 0 0) ∧ Ext w w' := by
  go_enter Try.func23, Try.ntmps23
  go_wp2_with fail
  refine bodyPost_ret (v := rdV s 0 0) (by simp [results, Try.results23, go_sem]) rfl ⟨rfl, Ext.alloc _ _⟩

theorem own_any (w : World) (s : ByteArray) (p b : Int) : Calls Try.prog 10 #[rdV s p b] w fun x w' => x = .returned (rdV s p b) ∧ Ext w w' := by
  go_enter Try.func10, Try.ntmps10
  go_wp2_with fail
  refine bodyPost_ret (v := rdV s p b) (by simp [results, Try.results10, go_sem]) rfl ⟨rfl, (Ext.alloc _ _).al _⟩

theorem back_any (w : World) (s : ByteArray) (p b : Int) : Calls Try.prog 17 #[rdV s p b] w fun x w' => x = .returned (rdV s p b) ∧ Ext w w' := by
  go_enter Try.func17, Try.ntmps17
  go_wp2_with fail
  refine bodyPost_ret (v := rdV s p b) (by simp [results, Try.results17, go_sem]) rfl ⟨rfl, (Ext.alloc _ _).al _⟩

end Go.Proofs.Ytfkfnhehbhebeaa
