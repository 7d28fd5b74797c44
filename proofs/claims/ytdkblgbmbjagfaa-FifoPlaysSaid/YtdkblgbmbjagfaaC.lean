/- What each method of a ring does to the world, said of cells. -/
import Derived.Test.YtdkblgbmbjagfaaA
import Derived.Lib.SliceRun
import Derived.Deep.RegionHeld3
namespace Go.Proofs.Ytdkblgbmbjagfaa
open Go.RowKit

/-- An operation whose run is known is done. -/
theorem step_value {P : Program} {ops : Array Oper} {Q : Exit → Act → World → Prop} {a : Act} {w w' : World} {o : Oper} {rest : List Oper} {v : Value}
    (hg : o.guard = none) (h : (execOp a.eval o).run P w = .ok (.value v) w') (hn : wpList P ops Q rest (a.put o.dst v) w') : wpList P ops Q (o :: rest) a w := by
  refine wpList_plain hg (fun K hK => ?_)
  unfold Oper.wp
  rw [h]
  exact hK _ _ hn

set_option maxHeartbeats 400000 in
theorem clear_nil (w : World) :
    Calls Try.prog 26 #[.pointer none] w fun e w' => e = .returned (.tuple #[]) ∧ w' = w := by
  go_enter Try.func26, Try.ntmps26
  go_wp2
  exact bodyPost_ret (results_none rfl _ _ _) rfl ⟨rfl, rfl⟩

/-- A new ring's cells. -/
def ring0 (n : Int) : Array Value := (ringCells (List.replicate 64 0) n 0 0).toArray

set_option maxHeartbeats 400000 in
theorem new_good (w : World) (n : Int) (h : 1 ≤ n) (h2 : n ≤ 64) :
    Calls Try.prog 8 #[.int .i64 n] w fun e w' => e = .returned (.tuple #[.pointer (some ⟨w.heap.size, 0, none⟩), .int .i64 0]) ∧ w' = w.alloc (.cells (ring0 n) 51) := by
  have hd : decide (n < 1) = false := by simp; omega
  go_enter Try.func8, Try.ntmps8
  go_wp2_with (refine step_value (o := ⟨some 11, _, _, _, _, _⟩) (w' := w) (v := .agg (ring0 n)) rfl (by kernel_rfl) ?_)
  go_ret2
  exact ⟨rfl, rfl⟩


set_option maxHeartbeats 400000 in
theorem drop_none (w : World) (b : Nat) (m n : Int) (cm : w.cell? ⟨b, 66, none⟩ = some (.int .i64 m)) (h0 : 0 ≤ m) (h : n ≤ 0 ∨ m = 0) :
    Calls Try.prog 24 #[.pointer (some ⟨b, 0, none⟩), .int .i64 n] w fun e w' => e = .returned (.int .i64 0) ∧ w' = w := by
  rcases h with h | rfl
  all_goals
    go_enter Try.func24, Try.ntmps24
    go_wp2_with (go_at_call 11; refine (len_some _ b _ (by exact cm)).mono ?_; rintro e w' ⟨rfl, rfl⟩)
  all_goals
    go_ret
    exact ⟨rfl, rfl⟩

set_option maxHeartbeats 400000 in
theorem drop_some (w : World) (b : Nat) (s f m n d : Int) (cs : w.cell? ⟨b, 64, none⟩ = some (.int .i64 s)) (cf : w.cell? ⟨b, 65, none⟩ = some (.int .i64 f)) (cm : w.cell? ⟨b, 66, none⟩ = some (.int .i64 m))
    (k : Nat) (hk : pl s f d = k) (zf : w.frozen? ⟨b, 65, none⟩ = false) (zm : w.frozen? ⟨b, 66, none⟩ = false)
    (h0 : 0 ≤ f) (h1 : f < s) (h2 : s ≤ 64) (h3 : m ≤ s) (h : (d = n ∧ n ≤ m) ∨ (d = m ∧ m < n)) (hd : 0 < d) :
    Calls Try.prog 24 #[.pointer (some ⟨b, 0, none⟩), .int .i64 n] w fun e w' => e = .returned (.int .i64 d) ∧ w' = ((w.setCell ⟨b, 65, none⟩ (.int .i64 k)).setCell ⟨b, 66, none⟩ (.int .i64 (m - d))) := by
  have HK := Lib.hid hk
  clear hk
  rcases h with ⟨rfl, h⟩ | ⟨rfl, h⟩
  all_goals
    go_enter Try.func24, Try.ntmps24
    go_wp2_with (first
      | (go_at_call 11; refine (len_some _ b _ (by exact cm)).mono ?_; rintro e w' ⟨rfl, rfl⟩)
      | (go_at_call 25; refine (place_at _ b s f _ k HK.out (by exact cs) (by exact cf) h0 h1 h2 (by omega) (by omega)).mono ?_; rintro e w' ⟨rfl, rfl⟩))
  all_goals
    go_ret
    exact ⟨rfl, by first | rfl | rw [Int.sub_self]⟩

set_option maxHeartbeats 400000 in
theorem clear_some (w : World) (b : Nat) (hc : ∀ j, j < 64 → (w.cell? ⟨b, 0 + j, none⟩).isSome = true) (hf : ∀ j, j < 64 → w.frozen? ⟨b, 0 + j, none⟩ = false)
    (W : World) (hW : w.setCells b 0 (List.replicate 64 (.int .i64 0)) = W) (c5 : (W.cell? ⟨b, 65, none⟩).isSome = true) (c6 : (W.cell? ⟨b, 66, none⟩).isSome = true) (f5 : W.frozen? ⟨b, 65, none⟩ = false) (f6 : W.frozen? ⟨b, 66, none⟩ = false) :
    Calls Try.prog 26 #[.pointer (some ⟨b, 0, none⟩)] w fun e w' => e = .returned (.tuple #[]) ∧ w' = ((W.setCell ⟨b, 65, none⟩ (.int .i64 0)).setCell ⟨b, 66, none⟩ (.int .i64 0)) := by
  have hcl : ∀ ty, (Builtin.clear_ #[28] ty #[.slice (some ⟨b, 0, none⟩) 64 64]).run Try.prog w = .ok (.tuple #[]) W := fun ty => by
    rw [← hW]
    exact Lib.run_clear_slice w 28 3 ty (.int .i64 0) Try.underlying28 (fun _ => by kernel_rfl) rfl rfl b 0 64 64 (by omega) hc hf
  obtain ⟨v5, e5⟩ := Option.isSome_iff_exists.1 c5
  obtain ⟨v6, e6⟩ := Option.isSome_iff_exists.1 c6
  clear hW c5 c6 hc hf
  go_enter Try.func26, Try.ntmps26
  go_wp2
  go_end0
  exact ⟨rfl, rfl⟩

end Go.Proofs.Ytdkblgbmbjagfaa
