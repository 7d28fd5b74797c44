/- What a call does to the document's ring: the last kind, and all. -/
import Derived.Test.YtdkblgbmbjagfaaQ
namespace Go.Proofs.Ytdkblgbmbjagfaa
open Go.RowKit

set_option maxHeartbeats 1000000 in
theorem model_6 (w : World) (n : Int) (L : List Int) (k y : Int) (v : Value) (h0 : 0 ≤ k) (h1 : k ≤ 255) (hk : k % 7 = 6) (h : RefR w v n L) :
    Calls Try.prog 17 #[v, .agg #[.int .u8 k, .int .i64 y]] w (Rets n v (if y = 7 then [] else L) [.int .i64 0, .bool false] w) := by
  obtain ⟨a, m, c, rfl, hi⟩ := h.form
  clear h
  have HB := Lib.hid hi.below
  have HI := Lib.hid hi
  clear hi
  by_cases hy : y = 7
  · have hb : (y == 7) = true := by simp [hy]
    rw [if_pos hy]
    have HY := Lib.hid hy
    clear hy
    go_enter Try.func17, Try.ntmps17
    go_wp2_with fail
    refine bodyPost_ret (v := .tuple #[.agg #[.int .i64 n, .slice none 0 0], .int .i64 0, .bool false]) (by simp [results, Try.results17, go_sem]) rfl ⟨_, rfl, ⟨_, rfl, ⟨by simp, .inl ⟨rfl, rfl⟩⟩⟩, fun n g o c l he => (by simp at he), ?_⟩
    exact ((Ext.alloc _ _).al _).al _
  · have hb : (y == 7) = false := by simp [hy]
    rw [if_neg hy]
    have HY := Lib.hid hy
    clear hy
    go_enter Try.func17, Try.ntmps17
    go_wp2_with fail
    refine bodyPost_ret (v := .tuple #[.agg #[.int .i64 n, .slice a m c], .int .i64 0, .bool false]) (by simp [results, Try.results17, go_sem]) rfl ⟨_, rfl, ⟨_, rfl, ?_⟩, Src.same _ _, ?_⟩
    · exact HI.out.ext (((Ext.alloc _ _).al _).al _)
    · exact ((Ext.alloc _ _).al _).al _

theorem model_any (w : World) (n : Int) (L : List Int) (k y : Int) (v : Value) (h0 : 0 ≤ k) (h1 : k ≤ 255) (h : RefR w v n L) (hl : L.length ≤ 900000) :
    Calls Try.prog 17 #[v, .agg #[.int .u8 k, .int .i64 y]] w (Rets n v (stepL n L k y) [.int .i64 (stepN L k y), .bool (stepB n L k)] w) := by
  rcases (by omega : k % 7 = 0 ∨ k % 7 = 1 ∨ k % 7 = 2 ∨ k % 7 = 3 ∨ k % 7 = 4 ∨ k % 7 = 5 ∨ k % 7 = 6) with hk | hk | hk | hk | hk | hk | hk
  · obtain ⟨e1, e2, e3⟩ := step_eq n L k y _ hk
    rw [e1, e2, e3]
    exact model_0 w n L k y v h0 h1 hk h hl
  · obtain ⟨e1, e2, e3⟩ := step_eq n L k y _ hk
    rw [e1, e2, e3]
    exact model_1 w n L k y v h0 h1 hk h hl
  · obtain ⟨e1, e2, e3⟩ := step_eq n L k y _ hk
    rw [e1, e2, e3]
    exact model_2 w n L k y v h0 h1 hk h hl
  · obtain ⟨e1, e2, e3⟩ := step_eq n L k y _ hk
    rw [e1, e2, e3]
    exact model_3 w n L k y v h0 h1 hk h hl
  · obtain ⟨e1, e2, e3⟩ := step_eq n L k y _ hk
    rw [e1, e2, e3]
    exact model_4 w n L k y v h0 h1 hk h hl
  · obtain ⟨e1, e2, e3⟩ := step_eq n L k y _ hk
    rw [e1, e2, e3]
    exact model_5 w n L k y v h0 h1 hk h hl
  · obtain ⟨e1, e2, e3⟩ := step_eq n L k y _ hk
    rw [e1, e2, e3]
    exact model_6 w n L k y v h0 h1 hk h

end Go.Proofs.Ytdkblgbmbjagfaa
