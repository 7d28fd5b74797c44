/- The walk of Reads. -/
import Derived.Test.YtgkeeibjchjlaaaN
namespace Go.Proofs.Ytgkeeibjchjlaaa
set_option linter.unusedSimpArgs false
set_option linter.unusedVariables false
open Go.RowKit

set_option maxRecDepth 100000 in
set_option maxHeartbeats 20000000 in
theorem reads_walk (w : World) (b : ByteArray) (hs0 : b.size ≤ 9223372036854775807) : Calls Try.prog 3 #[.string b] w fun e w' => e = .returned (.bool true) ∧ Ext w w' := by
  by_cases hb : 400 < b.size
  · have h1 : (400 : Int) < b.size := by omega
    go_enter Try.func3, Try.ntmps3
    go_wp2_with fail
    refine (awake_any _).mono ?_
    rintro e w1 ⟨rfl, x0⟩
    go_wp2_with fail
    go_ret
    exact ⟨rfl, x0⟩
  have h1 : ¬ (400 : Int) < b.size := by omega
  have hs : b.size ≤ 1000000 := by omega
  have HA := Lib.hid (allOf_len b hs)
  have hl : (allT b).length ≤ 1000000 := by
    by_cases h : allE b = 0
    · rw [allT_yes h]; have := HA.out; omega
    · rw [allT_no h]; simp
  go_enter Try.func3, Try.ntmps3
  go_wp2_with fail
  refine (get_any _ b hs).mono ?_
  rintro e w1 ⟨rfl, x0⟩
  go_wp2_with fail
  refine (rget_any _ b hs).mono ?_
  rintro e w2 ⟨rfl, x1⟩
  have x0 := x0.trans x1
  clear x1
  go_wp2_with fail
  refine (all_any _ b hs).mono ?_
  rintro e w3 ⟨a3, c3, rfl, t3, x1⟩
  have T3 := Lib.hid t3
  have x0 := x0.trans x1
  clear x1 t3
  go_wp2_with fail
  refine (rall_any _ b hs).mono ?_
  rintro e w4 ⟨a4, c4, rfl, t4, x1⟩
  have T3 := Lib.hid (T3.out.ext x1)
  have T4 := Lib.hid t4
  have x0 := x0.trans x1
  clear x1 t4
  generalize allE b = ae at *
  generalize allT b = at1 at *
  generalize getE b = ge at *
  generalize getS b = gs at *
  generalize getN b = gn at *
  go_wp2_with fail
  refine (same_any _ a3 a4 c3 c4 at1 T3 T4 hl).mono ?_
  rintro e w5 ⟨rfl, x1⟩
  have x0 := x0.trans x1
  clear x1
  go_wp2_with fail
  refine (count_any _ b hs).mono ?_
  rintro e w6 ⟨rfl, x1⟩
  have x0 := x0.trans x1
  clear x1
  go_wp2_with fail
  refine (rcount_any _ b hs).mono ?_
  rintro e w7 ⟨rfl, x1⟩
  have x0 := x0.trans x1
  clear x1
  go_wp2_with fail
  refine (awake_any _).mono ?_
  rintro e w8 ⟨rfl, x1⟩
  have x0 := x0.trans x1
  clear x1
  go_wp2_with fail
  go_ret
  exact ⟨rfl, x0⟩

end Go.Proofs.Ytgkeeibjchjlaaa
