/- Any number and any text is laid as the document says: the walk. -/
import Derived.Test.YtfkfnhehbhebeaaP
namespace Go.Proofs.Ytfkfnhehbhebeaa
set_option linter.unusedSimpArgs false
set_option linter.unusedVariables false
open Go.RowKit

set_option maxRecDepth 100000 in
set_option maxHeartbeats 8000000 in
theorem lays_walk (w : World) (n k : Int) (s : ByteArray) (hn : n ≤ 9223372036854775807) : Calls Try.prog 4 #[.int .i64 n, .int .i64 k, .string s] w fun e w' => e = .returned (.bool true) ∧ Ext w w' := by
  by_cases hl : (300 : Int) < s.size
  case' pos =>
    go_enter Try.func4, Try.ntmps4
    go_wp2_with fail
    refine (awake_any _).mono ?_
    rintro e w1 ⟨rfl, x1⟩
    go_wp2_with fail
    go_ret
    exact ⟨rfl, x1⟩
  case' neg =>
    have hs : s.size ≤ 1000000 := by omega
    go_enter Try.func4, Try.ntmps4
    go_wp2_with fail
    refine (lay_any _ n k).mono ?_
    rintro e w1 ⟨v1, rfl, b1, x0⟩
    have V1 := Lib.hid b1
    clear b1
    go_wp2_with fail
    refine (rlay_any _ n k hn).mono ?_
    rintro e w2 ⟨v2, rfl, b2, x1⟩
    have V1 := Lib.hid (V1.out.ext x1)
    have V2 := Lib.hid b2
    have x0 := x0.trans x1
    clear b2 x1
    go_wp2_with fail
    refine (say_any _ s k hs).mono ?_
    rintro e w3 ⟨v3, rfl, b3, x1⟩
    have V1 := Lib.hid (V1.out.ext x1)
    have V2 := Lib.hid (V2.out.ext x1)
    have V3 := Lib.hid b3
    have x0 := x0.trans x1
    clear b3 x1
    go_wp2_with fail
    refine (rsay_any _ s k hs).mono ?_
    rintro e w4 ⟨v4, rfl, b4, x1⟩
    have k1 := (V1.out.ext x1).back
    have k2 := (V2.out.ext x1).back
    have k3 := (V3.out.ext x1).back
    have k4 := b4.back
    have x0 := x0.trans x1
    clear b4 x1 V1 V2 V3
    go_wp2_with fail
    refine (awake_any _).mono ?_
    rintro e w5 ⟨rfl, x1⟩
    go_wp2_with fail
    go_ret
    exact ⟨rfl, x0.trans x1⟩

end Go.Proofs.Ytfkfnhehbhebeaa
