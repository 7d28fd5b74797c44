/- Which states may be, and what is said. -/
import Derived.Test.YtgjfihpmbchhiaaBase
namespace Go.Proofs.Ytgjfihpmbchhiaa
set_option linter.unusedSimpArgs false
set_option linter.unusedVariables false
open Go.RowKit

/-- Whether a state may be. -/
def chk (s : Int) : Int := if s < 0 ∨ 15 < s then 8 else if s.toNat &&& 5 = 5 ∨ s.toNat &&& 10 = 10 then 4 else 0

theorem sixteen {s : Int} (h0 : 0 ≤ s) (h1 : s ≤ 15) : s = 0 ∨ s = 1 ∨ s = 2 ∨ s = 3 ∨ s = 4 ∨ s = 5 ∨ s = 6 ∨ s = 7 ∨ s = 8 ∨ s = 9 ∨ s = 10 ∨ s = 11 ∨ s = 12 ∨ s = 13 ∨ s = 14 ∨ s = 15 := by omega

set_option maxHeartbeats 4000000 in
theorem check_any (w : World) (s : Int) (h0 : 0 ≤ s) (h1 : s ≤ 15) : Calls Try.prog 9 #[.int .i64 s] w fun e w' => e = .returned (.int .i64 (chk s)) ∧ w' = w := by
  rcases sixteen h0 h1 with rfl | rfl | rfl | rfl | rfl | rfl | rfl | rfl | rfl | rfl | rfl | rfl | rfl | rfl | rfl | rfl
  all_goals
    clear h0 h1
    go_enter Try.func9, Try.ntmps9
    go_wp2_with fail
    go_ret
    exact ⟨rfl, rfl⟩

theorem check_16 (w : World) : Calls Try.prog 9 #[.int .i64 16] w fun e w' => e = .returned (.int .i64 8) ∧ w' = w := by
  go_enter Try.func9, Try.ntmps9
  go_wp2_with fail
  go_ret
  exact ⟨rfl, rfl⟩

end Go.Proofs.Ytgjfihpmbchhiaa
