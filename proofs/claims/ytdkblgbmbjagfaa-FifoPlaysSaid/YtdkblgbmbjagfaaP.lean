/- The walk of the law on a ring that is not there. -/
import Derived.Test.YtdkblgbmbjagfaaO
namespace Go.Proofs.Ytdkblgbmbjagfaa
open Go.RowKit

set_option maxHeartbeats 400000 in
theorem all_nil (w : World) : Calls Try.prog 21 #[.pointer none] w fun e w' => e = .returned (.slice none 0 0) ∧ w' = w := by
  go_enter Try.func21, Try.ntmps21
  go_wp2_with (go_at_call 11; refine (len_nil _).mono ?_; rintro e w' ⟨rfl, rfl⟩)
  go_loop [3, 7] (fun v i => v = .slice none 0 0 ∧ i = .int .i64 0) (fun _ _ => 0)
  case atStart => exact ⟨rfl, rfl⟩
  case round =>
    obtain ⟨rfl, rfl⟩ := hrel
    go_wp2
    go_ret
    exact ⟨rfl, rfl⟩

theorem at_nobody (w : World) (i : Int) : Calls Try.prog 18 #[.pointer none, .int .i64 i] w fun e w' => e = .returned (.tuple #[.int .i64 0, .bool false]) ∧ w' = w := by
  by_cases h : i < 0
  · exact at_neg w none i h
  · exact at_nil w i (by omega)

set_option maxRecDepth 100000 in
set_option maxHeartbeats 1000000 in
theorem nobody_walk (w : World) (k y i : Int) (h0 : 0 ≤ k) (h1 : k ≤ 255) :
    Calls Try.prog 6 #[.agg #[.int .u8 k, .int .i64 y], .int .i64 i] w fun e w' => e = .returned (.bool true) ∧ Ext w w' := by
  by_cases hk : k % 7 = 5
  case' pos =>
    have hn : nilB k = true := by simp [nilB, hk]
    have h5 : (k % 7 == 5) = true := by simp [hk]
  case' neg =>
    have hn : nilB k = false := by simp [nilB, hk]
    have h5 : (k % 7 == 5) = false := by simp [hk]
  all_goals
    have HK := Lib.hid hk
    have HN := Lib.hid hn
    clear hk hn
    go_enter Try.func6, Try.ntmps6
    go_wp2_with fail
    obtain ⟨w0, hw0⟩ : ∃ w0, w0 = w.alloc (.cells #[.int .u8 k, .int .i64 y] 31) := ⟨_, rfl⟩
    rw [← hw0]
    have x0 : Ext w w0 := hw0 ▸ Ext.alloc _ _
    have c0 : w0.cell? ⟨w.heap.size, 0, none⟩ = some (.int .u8 k) := by rw [hw0]; simp
    clear hw0
    refine (don_any w0 k y h0 h1).mono ?_
    rintro e w2 ⟨rfl, x2⟩
    rw [HN.out]
    have c2 := x2.cell_some c0
    have y2 := x0.trans x2
    clear x0 x2 c0
    go_wp2_with fail
    refine (at_nobody _ i).mono ?_
    rintro e w3 ⟨rfl, rfl⟩
    go_wp2_with fail
    refine (len_nil _).mono ?_
    rintro e w4 ⟨rfl, rfl⟩
    go_wp2_with fail
    refine (room_nil _).mono ?_
    rintro e w5 ⟨rfl, rfl⟩
    go_wp2_with fail
    refine (all_nil _).mono ?_
    rintro e w6 ⟨rfl, rfl⟩
    go_wp2_with fail
    refine (find_nil _ i).mono ?_
    rintro e w7 ⟨rfl, rfl⟩
    go_wp2_with fail
    refine (awake_any _).mono ?_
    rintro e w8 ⟨rfl, y8⟩
    go_wp2_with fail
    go_ret
    exact ⟨rfl, y2.trans y8⟩

end Go.Proofs.Ytdkblgbmbjagfaa
