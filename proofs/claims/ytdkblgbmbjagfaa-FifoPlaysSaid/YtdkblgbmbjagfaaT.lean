/- The walk of the law on a ring's plays, where there are too many. -/
import Derived.Test.YtdkblgbmbjagfaaS
namespace Go.Proofs.Ytdkblgbmbjagfaa
open Go.RowKit

set_option maxHeartbeats 400000 in
theorem plays_long (w : World) (a : Option Addr) (c m : Nat) (n i : Int) (h : 80 < m) :
    Calls Try.prog 5 #[.int .i64 n, .slice a m c, .int .i64 i] w fun e w' => e = .returned (.bool true) ∧ Ext w w' := by
  have hd : (80 : Int) < m := by omega
  go_enter Try.func5, Try.ntmps5
  go_wp2_with fail
  refine (awake_any _).mono ?_
  rintro e w2 ⟨rfl, y2⟩
  go_wp2_with fail
  go_ret
  exact ⟨rfl, y2⟩

end Go.Proofs.Ytdkblgbmbjagfaa
