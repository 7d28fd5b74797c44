/- What the small functions of a state answer. -/
import Derived.Test.YtnldfglgdchinaaBase
namespace Go.Proofs.Ytnldfglgdchinaa
set_option linter.unusedSimpArgs false
set_option linter.unusedVariables false
open Go.RowKit

/-- Does n lie from a to b? -/
def inB (n a b : Int) : Bool := decide (a ≤ n) && decide (n ≤ b)

/-- What a thing of a kind costs. -/
def costI (k : Int) : Int := if k = 0 then 8 else if k = 1 then 6 else if k = 2 then 4 else if k = 3 then 3 else if k = 4 then 2 else if k = 5 then 1 else 0

set_option maxHeartbeats 400000 in
theorem is_any (w : World) (k : Int) : Calls Try.prog 28 #[.int .i64 k] w fun e w' => e = .returned (.bool (inB k 0 5)) ∧ w' = w := by
  by_cases h0 : 0 ≤ k
  · by_cases h1 : k < 6
    · rw [show inB k 0 5 = true by simp [inB]; omega]
      go_enter Try.func28, Try.ntmps28
      go_wp2
      go_ret
      exact ⟨rfl, rfl⟩
    · rw [show inB k 0 5 = false by simp [inB]; omega]
      go_enter Try.func28, Try.ntmps28
      go_wp2
      go_ret
      exact ⟨rfl, rfl⟩
  · rw [show inB k 0 5 = false by simp [inB]; omega]
    go_enter Try.func28, Try.ntmps28
    go_wp2
    go_ret
    exact ⟨rfl, rfl⟩

set_option maxHeartbeats 400000 in
theorem in_any (w : World) (n a b : Int) : Calls Try.prog 32 #[.int .i64 n, .int .i64 a, .int .i64 b] w fun e w' => e = .returned (.bool (inB n a b)) ∧ w' = w := by
  by_cases h0 : a ≤ n
  · by_cases h1 : n ≤ b
    · rw [show inB n a b = true by simp [inB, h0, h1]]
      go_enter Try.func32, Try.ntmps32
      go_wp2
      go_ret
      exact ⟨rfl, rfl⟩
    · rw [show inB n a b = false by simp [inB, h1]]
      go_enter Try.func32, Try.ntmps32
      go_wp2
      go_ret
      exact ⟨rfl, rfl⟩
  · rw [show inB n a b = false by simp [inB, h0]]
    go_enter Try.func32, Try.ntmps32
    go_wp2
    go_ret
    exact ⟨rfl, rfl⟩

set_option maxHeartbeats 400000 in
theorem rin_any (w : World) (n a b : Int) : Calls Try.prog 29 #[.int .i64 n, .int .i64 a, .int .i64 b] w fun e w' => e = .returned (.bool (inB n a b)) ∧ w' = w := by
  by_cases h0 : a ≤ n
  · by_cases h1 : n ≤ b
    · rw [show inB n a b = true by simp [inB, h0, h1]]
      go_enter Try.func29, Try.ntmps29
      go_wp2
      go_ret
      exact ⟨rfl, rfl⟩
    · rw [show inB n a b = false by simp [inB, h1]]
      go_enter Try.func29, Try.ntmps29
      go_wp2
      go_ret
      exact ⟨rfl, rfl⟩
  · rw [show inB n a b = false by simp [inB, h0]]
    go_enter Try.func29, Try.ntmps29
    go_wp2
    go_ret
    exact ⟨rfl, rfl⟩

set_option maxHeartbeats 400000 in
theorem costs_any (w : World) : Calls Try.prog 33 #[] w fun e w' => e = .returned (.agg #[.int .i64 8, .int .i64 6, .int .i64 4, .int .i64 3, .int .i64 2, .int .i64 1]) ∧ Ext w w' := by
  go_enter Try.func33, Try.ntmps33
  go_wp2
  exact bodyPost_ret (v := .agg #[.int .i64 8, .int .i64 6, .int .i64 4, .int .i64 3, .int .i64 2, .int .i64 1]) (by simp [results, Try.results33, go_sem]) rfl ⟨rfl, Ext.alloc _ _⟩

@[go_sem] theorem index_0 (w : World) (a0 a1 a2 a3 a4 a5 : Value) : Sem.run Try.prog (Instr.index 22 (.agg #[a0, a1, a2, a3, a4, a5]) (.int .i64 0)) w = .ok a0 w := by rfl
@[go_sem] theorem index_1 (w : World) (a0 a1 a2 a3 a4 a5 : Value) : Sem.run Try.prog (Instr.index 22 (.agg #[a0, a1, a2, a3, a4, a5]) (.int .i64 1)) w = .ok a1 w := by rfl
@[go_sem] theorem index_2 (w : World) (a0 a1 a2 a3 a4 a5 : Value) : Sem.run Try.prog (Instr.index 22 (.agg #[a0, a1, a2, a3, a4, a5]) (.int .i64 2)) w = .ok a2 w := by rfl
@[go_sem] theorem index_3 (w : World) (a0 a1 a2 a3 a4 a5 : Value) : Sem.run Try.prog (Instr.index 22 (.agg #[a0, a1, a2, a3, a4, a5]) (.int .i64 3)) w = .ok a3 w := by rfl
@[go_sem] theorem index_4 (w : World) (a0 a1 a2 a3 a4 a5 : Value) : Sem.run Try.prog (Instr.index 22 (.agg #[a0, a1, a2, a3, a4, a5]) (.int .i64 4)) w = .ok a4 w := by rfl
@[go_sem] theorem index_5 (w : World) (a0 a1 a2 a3 a4 a5 : Value) : Sem.run Try.prog (Instr.index 22 (.agg #[a0, a1, a2, a3, a4, a5]) (.int .i64 5)) w = .ok a5 w := by rfl

set_option maxHeartbeats 400000 in
theorem cost_any (w : World) (k : Int) : Calls Try.prog 26 #[.int .i64 k] w fun e w' => e = .returned (.int .i64 (costI k)) ∧ Ext w w' := by
  by_cases h : 0 ≤ k ∧ k ≤ 5
  · have hI : inB k 0 5 = true := by simp [inB, h]
    rcases (by omega : k = 0 ∨ k = 1 ∨ k = 2 ∨ k = 3 ∨ k = 4 ∨ k = 5) with rfl | rfl | rfl | rfl | rfl | rfl
    all_goals
      go_enter Try.func26, Try.ntmps26
      go_wp2_with fail
      refine (is_any _ _).mono ?_
      rintro e w1 ⟨rfl, rfl⟩
      rw [hI]
      go_wp2_with fail
      refine (costs_any _).mono ?_
      rintro e w2 ⟨rfl, x2⟩
      go_wp2_with fail
      go_ret
      exact ⟨rfl, x2⟩
  · have hI : inB k 0 5 = false := by simp [inB]; omega
    have hc : costI k = 0 := by unfold costI; repeat' split; all_goals omega
    go_enter Try.func26, Try.ntmps26
    go_wp2_with fail
    refine (is_any _ _).mono ?_
    rintro e w1 ⟨rfl, rfl⟩
    rw [hI]
    go_wp2_with fail
    rw [hc]
    go_ret
    exact ⟨rfl, Ext.refl _⟩

set_option maxHeartbeats 400000 in
theorem rcost_any (w : World) (k : Int) : Calls Try.prog 27 #[.int .i64 k] w fun e w' => e = .returned (.int .i64 (costI k)) ∧ Ext w w' := by
  by_cases h : 0 ≤ k ∧ k ≤ 5
  · rcases (by omega : k = 0 ∨ k = 1 ∨ k = 2 ∨ k = 3 ∨ k = 4 ∨ k = 5) with rfl | rfl | rfl | rfl | rfl | rfl
    all_goals
      go_enter Try.func27, Try.ntmps27
      go_wp2_with fail
      go_ret
      exact ⟨rfl, Ext.refl _⟩
  · have hc : costI k = 0 := by unfold costI; repeat' split; all_goals omega
    have h0 : k ≠ 0 := by omega
    have h1 : k ≠ 1 := by omega
    have h2 : k ≠ 2 := by omega
    have h3 : k ≠ 3 := by omega
    have h4 : k ≠ 4 := by omega
    have h5 : k ≠ 5 := by omega
    rw [hc]
    go_enter Try.func27, Try.ntmps27
    go_wp2_with fail
    go_ret
    exact ⟨rfl, Ext.refl _⟩

end Go.Proofs.Ytnldfglgdchinaa
