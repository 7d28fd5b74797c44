/- What a call does to a ring, and to the document's. -/
import Derived.Test.YtdkblgbmbjagfaaN
namespace Go.Proofs.Ytdkblgbmbjagfaa
open Go.RowKit

/-- A call's ring, number, and truth, said of lists. -/
def stepL (s : Int) (L : List Int) (k y : Int) : List Int :=
  if k % 7 = 2 then pushL s L y else if k % 7 = 3 then L.tail else if k % 7 = 4 then L.dropLast else if k % 7 = 5 then L.drop (dropN L y).toNat else if k % 7 = 6 then (if y = 7 then [] else L) else putL s L y
def stepN (L : List Int) (k y : Int) : Int := if k % 7 = 3 then headV L else if k % 7 = 4 then lastV L else if k % 7 = 5 then dropN L y else 0
def stepB (s : Int) (L : List Int) (k : Int) : Bool :=
  if k % 7 = 3 then some' L else if k % 7 = 4 then some' L else if k % 7 = 5 then true else if k % 7 = 6 then false else fits s L

theorem step_eq (s : Int) (L : List Int) (k y : Int) (c : Int) (h : k % 7 = c) : stepL s L k y = stepL s L c y ∧ stepN L k y = stepN L c y ∧ stepB s L k = stepB s L c := by
  have h1 : c % 7 = c := by omega
  refine ⟨?_, ?_, ?_⟩ <;> simp only [stepL, stepN, stepB, h, h1]

set_option maxHeartbeats 400000 in
theorem do_0 (w : World) (b : Nat) (s : Int) (L : List Int) (k y : Int) (h0 : 0 ≤ k) (h1 : k ≤ 255) (hk : k % 7 = 0) (h : Ring w b s L) :
    Calls Try.prog 16 #[.pointer (some ⟨b, 0, none⟩), .agg #[.int .u8 k, .int .i64 y]] w (Does b s w (.tuple #[.int .i64 0, .bool (fits s L)]) (putL s L y)) := by
  go_enter Try.func16, Try.ntmps16
  go_wp2_with fail
  obtain ⟨w0, hw0⟩ : ∃ w0, w0 = w.alloc (.cells #[.int .u8 k, .int .i64 y] 31) := ⟨_, rfl⟩
  rw [← hw0]
  have x0 : Ext w w0 := hw0 ▸ Ext.alloc _ _
  clear hw0
  refine (put_ring w0 b s L y (h.ext x0)).mono ?_
  rintro e w2 ⟨rfl, r2, g2⟩
  go_wp2_with fail
  go_ret2
  exact ⟨rfl, r2, grown_trans (x0.gr _) g2⟩

set_option maxHeartbeats 400000 in
theorem do_1 (w : World) (b : Nat) (s : Int) (L : List Int) (k y : Int) (h0 : 0 ≤ k) (h1 : k ≤ 255) (hk : k % 7 = 1) (h : Ring w b s L) :
    Calls Try.prog 16 #[.pointer (some ⟨b, 0, none⟩), .agg #[.int .u8 k, .int .i64 y]] w (Does b s w (.tuple #[.int .i64 0, .bool (fits s L)]) (putL s L y)) := by
  go_enter Try.func16, Try.ntmps16
  go_wp2_with fail
  obtain ⟨w0, hw0⟩ : ∃ w0, w0 = w.alloc (.cells #[.int .u8 k, .int .i64 y] 31) := ⟨_, rfl⟩
  rw [← hw0]
  have x0 : Ext w w0 := hw0 ▸ Ext.alloc _ _
  clear hw0
  refine (put_ring w0 b s L y (h.ext x0)).mono ?_
  rintro e w2 ⟨rfl, r2, g2⟩
  go_wp2_with fail
  go_ret2
  exact ⟨rfl, r2, grown_trans (x0.gr _) g2⟩

set_option maxHeartbeats 400000 in
theorem do_2 (w : World) (b : Nat) (s : Int) (L : List Int) (k y : Int) (h0 : 0 ≤ k) (h1 : k ≤ 255) (hk : k % 7 = 2) (h : Ring w b s L) :
    Calls Try.prog 16 #[.pointer (some ⟨b, 0, none⟩), .agg #[.int .u8 k, .int .i64 y]] w (Does b s w (.tuple #[.int .i64 0, .bool (fits s L)]) (pushL s L y)) := by
  go_enter Try.func16, Try.ntmps16
  go_wp2_with fail
  obtain ⟨w0, hw0⟩ : ∃ w0, w0 = w.alloc (.cells #[.int .u8 k, .int .i64 y] 31) := ⟨_, rfl⟩
  rw [← hw0]
  have x0 : Ext w w0 := hw0 ▸ Ext.alloc _ _
  clear hw0
  refine (push_ring w0 b s L y (h.ext x0)).mono ?_
  rintro e w2 ⟨rfl, r2, g2⟩
  go_wp2_with fail
  go_ret2
  exact ⟨rfl, r2, grown_trans (x0.gr _) g2⟩

set_option maxHeartbeats 400000 in
theorem do_3 (w : World) (b : Nat) (s : Int) (L : List Int) (k y : Int) (h0 : 0 ≤ k) (h1 : k ≤ 255) (hk : k % 7 = 3) (h : Ring w b s L) :
    Calls Try.prog 16 #[.pointer (some ⟨b, 0, none⟩), .agg #[.int .u8 k, .int .i64 y]] w (Does b s w (.tuple #[.int .i64 (headV L), .bool (some' L)]) (L.tail)) := by
  go_enter Try.func16, Try.ntmps16
  go_wp2_with fail
  obtain ⟨w0, hw0⟩ : ∃ w0, w0 = w.alloc (.cells #[.int .u8 k, .int .i64 y] 31) := ⟨_, rfl⟩
  rw [← hw0]
  have x0 : Ext w w0 := hw0 ▸ Ext.alloc _ _
  clear hw0
  refine (take_ring w0 b s L (h.ext x0)).mono ?_
  rintro e w2 ⟨rfl, r2, g2⟩
  go_wp2_with fail
  go_ret2
  exact ⟨rfl, r2, grown_trans (x0.gr _) g2⟩

set_option maxHeartbeats 400000 in
theorem do_4 (w : World) (b : Nat) (s : Int) (L : List Int) (k y : Int) (h0 : 0 ≤ k) (h1 : k ≤ 255) (hk : k % 7 = 4) (h : Ring w b s L) :
    Calls Try.prog 16 #[.pointer (some ⟨b, 0, none⟩), .agg #[.int .u8 k, .int .i64 y]] w (Does b s w (.tuple #[.int .i64 (lastV L), .bool (some' L)]) (L.dropLast)) := by
  go_enter Try.func16, Try.ntmps16
  go_wp2_with fail
  obtain ⟨w0, hw0⟩ : ∃ w0, w0 = w.alloc (.cells #[.int .u8 k, .int .i64 y] 31) := ⟨_, rfl⟩
  rw [← hw0]
  have x0 : Ext w w0 := hw0 ▸ Ext.alloc _ _
  clear hw0
  refine (last_ring w0 b s L (h.ext x0)).mono ?_
  rintro e w2 ⟨rfl, r2, g2⟩
  go_wp2_with fail
  go_ret2
  exact ⟨rfl, r2, grown_trans (x0.gr _) g2⟩

set_option maxHeartbeats 400000 in
theorem do_5 (w : World) (b : Nat) (s : Int) (L : List Int) (k y : Int) (h0 : 0 ≤ k) (h1 : k ≤ 255) (hk : k % 7 = 5) (h : Ring w b s L) :
    Calls Try.prog 16 #[.pointer (some ⟨b, 0, none⟩), .agg #[.int .u8 k, .int .i64 y]] w (Does b s w (.tuple #[.int .i64 (dropN L y), .bool true]) (L.drop (dropN L y).toNat)) := by
  go_enter Try.func16, Try.ntmps16
  go_wp2_with fail
  obtain ⟨w0, hw0⟩ : ∃ w0, w0 = w.alloc (.cells #[.int .u8 k, .int .i64 y] 31) := ⟨_, rfl⟩
  rw [← hw0]
  have x0 : Ext w w0 := hw0 ▸ Ext.alloc _ _
  clear hw0
  refine (drop_ring w0 b s L y (h.ext x0)).mono ?_
  rintro e w2 ⟨rfl, r2, g2⟩
  go_wp2_with fail
  go_ret2
  exact ⟨rfl, r2, grown_trans (x0.gr _) g2⟩

set_option maxHeartbeats 400000 in
theorem do_6 (w : World) (b : Nat) (s : Int) (L : List Int) (k y : Int) (h0 : 0 ≤ k) (h1 : k ≤ 255) (hk : k % 7 = 6) (h : Ring w b s L) :
    Calls Try.prog 16 #[.pointer (some ⟨b, 0, none⟩), .agg #[.int .u8 k, .int .i64 y]] w (Does b s w (.tuple #[.int .i64 0, .bool false]) (if y = 7 then [] else L)) := by
  by_cases hy : y = 7
  · rw [if_pos hy]
    have hb : (y == 7) = true := by simp [hy]
    have HY := Lib.hid hy
    clear hy
    go_enter Try.func16, Try.ntmps16
    go_wp2_with fail
    obtain ⟨w0, hw0⟩ : ∃ w0, w0 = w.alloc (.cells #[.int .u8 k, .int .i64 y] 31) := ⟨_, rfl⟩
    rw [← hw0]
    have x0 : Ext w w0 := hw0 ▸ Ext.alloc _ _
    clear hw0
    refine (clear_ring w0 b s L (h.ext x0)).mono ?_
    rintro e w2 ⟨rfl, r2, g2⟩
    go_wp2_with fail
    go_ret2
    exact ⟨rfl, r2, grown_trans (x0.gr _) g2⟩
  · rw [if_neg hy]
    have hb : (y == 7) = false := by simp [hy]
    have HY := Lib.hid hy
    clear hy
    go_enter Try.func16, Try.ntmps16
    go_wp2_with fail
    go_ret2
    exact ⟨rfl, h.ext (Ext.alloc _ _), (Ext.alloc _ _).gr _⟩

theorem do_any (w : World) (b : Nat) (s : Int) (L : List Int) (k y : Int) (h0 : 0 ≤ k) (h1 : k ≤ 255) (h : Ring w b s L) :
    Calls Try.prog 16 #[.pointer (some ⟨b, 0, none⟩), .agg #[.int .u8 k, .int .i64 y]] w (Does b s w (.tuple #[.int .i64 (stepN L k y), .bool (stepB s L k)]) (stepL s L k y)) := by
  rcases (by omega : k % 7 = 0 ∨ k % 7 = 1 ∨ k % 7 = 2 ∨ k % 7 = 3 ∨ k % 7 = 4 ∨ k % 7 = 5 ∨ k % 7 = 6) with hk | hk | hk | hk | hk | hk | hk
  · obtain ⟨e1, e2, e3⟩ := step_eq s L k y _ hk
    rw [e1, e2, e3]
    exact do_0 w b s L k y h0 h1 hk h
  · obtain ⟨e1, e2, e3⟩ := step_eq s L k y _ hk
    rw [e1, e2, e3]
    exact do_1 w b s L k y h0 h1 hk h
  · obtain ⟨e1, e2, e3⟩ := step_eq s L k y _ hk
    rw [e1, e2, e3]
    exact do_2 w b s L k y h0 h1 hk h
  · obtain ⟨e1, e2, e3⟩ := step_eq s L k y _ hk
    rw [e1, e2, e3]
    exact do_3 w b s L k y h0 h1 hk h
  · obtain ⟨e1, e2, e3⟩ := step_eq s L k y _ hk
    rw [e1, e2, e3]
    exact do_4 w b s L k y h0 h1 hk h
  · obtain ⟨e1, e2, e3⟩ := step_eq s L k y _ hk
    rw [e1, e2, e3]
    exact do_5 w b s L k y h0 h1 hk h
  · obtain ⟨e1, e2, e3⟩ := step_eq s L k y _ hk
    rw [e1, e2, e3]
    exact do_6 w b s L k y h0 h1 hk h

set_option maxHeartbeats 400000 in
theorem don_0 (w : World) (k y : Int) (h0 : 0 ≤ k) (h1 : k ≤ 255) (hk : k % 7 = 0) :
    Calls Try.prog 16 #[.pointer none, .agg #[.int .u8 k, .int .i64 y]] w fun e w' => e = .returned (.tuple #[.int .i64 0, .bool false]) ∧ Ext w w' := by
  · go_enter Try.func16, Try.ntmps16
    go_wp2_with fail
    refine (put_nil _ y).mono ?_
    rintro e w2 ⟨rfl, rfl⟩
    go_wp2_with fail
    go_ret2
    exact ⟨rfl, Ext.alloc _ _⟩

set_option maxHeartbeats 400000 in
theorem don_1 (w : World) (k y : Int) (h0 : 0 ≤ k) (h1 : k ≤ 255) (hk : k % 7 = 1) :
    Calls Try.prog 16 #[.pointer none, .agg #[.int .u8 k, .int .i64 y]] w fun e w' => e = .returned (.tuple #[.int .i64 0, .bool false]) ∧ Ext w w' := by
  · go_enter Try.func16, Try.ntmps16
    go_wp2_with fail
    refine (put_nil _ y).mono ?_
    rintro e w2 ⟨rfl, rfl⟩
    go_wp2_with fail
    go_ret2
    exact ⟨rfl, Ext.alloc _ _⟩

set_option maxHeartbeats 400000 in
theorem don_2 (w : World) (k y : Int) (h0 : 0 ≤ k) (h1 : k ≤ 255) (hk : k % 7 = 2) :
    Calls Try.prog 16 #[.pointer none, .agg #[.int .u8 k, .int .i64 y]] w fun e w' => e = .returned (.tuple #[.int .i64 0, .bool false]) ∧ Ext w w' := by
  · go_enter Try.func16, Try.ntmps16
    go_wp2_with fail
    refine (push_nil _ y).mono ?_
    rintro e w2 ⟨rfl, rfl⟩
    go_wp2_with fail
    go_ret2
    exact ⟨rfl, Ext.alloc _ _⟩

set_option maxHeartbeats 400000 in
theorem don_3 (w : World) (k y : Int) (h0 : 0 ≤ k) (h1 : k ≤ 255) (hk : k % 7 = 3) :
    Calls Try.prog 16 #[.pointer none, .agg #[.int .u8 k, .int .i64 y]] w fun e w' => e = .returned (.tuple #[.int .i64 0, .bool false]) ∧ Ext w w' := by
  · go_enter Try.func16, Try.ntmps16
    go_wp2_with fail
    refine (take_nil _).mono ?_
    rintro e w2 ⟨rfl, rfl⟩
    go_wp2_with fail
    go_ret2
    exact ⟨rfl, Ext.alloc _ _⟩

set_option maxHeartbeats 400000 in
theorem don_4 (w : World) (k y : Int) (h0 : 0 ≤ k) (h1 : k ≤ 255) (hk : k % 7 = 4) :
    Calls Try.prog 16 #[.pointer none, .agg #[.int .u8 k, .int .i64 y]] w fun e w' => e = .returned (.tuple #[.int .i64 0, .bool false]) ∧ Ext w w' := by
  · go_enter Try.func16, Try.ntmps16
    go_wp2_with fail
    refine (last_nil _).mono ?_
    rintro e w2 ⟨rfl, rfl⟩
    go_wp2_with fail
    go_ret2
    exact ⟨rfl, Ext.alloc _ _⟩

set_option maxHeartbeats 400000 in
theorem don_5 (w : World) (k y : Int) (h0 : 0 ≤ k) (h1 : k ≤ 255) (hk : k % 7 = 5) :
    Calls Try.prog 16 #[.pointer none, .agg #[.int .u8 k, .int .i64 y]] w fun e w' => e = .returned (.tuple #[.int .i64 0, .bool true]) ∧ Ext w w' := by
  · go_enter Try.func16, Try.ntmps16
    go_wp2_with fail
    refine (drop_nil _ y).mono ?_
    rintro e w2 ⟨rfl, rfl⟩
    go_wp2_with fail
    go_ret2
    exact ⟨rfl, Ext.alloc _ _⟩

set_option maxHeartbeats 400000 in
theorem don_6 (w : World) (k y : Int) (h0 : 0 ≤ k) (h1 : k ≤ 255) (hk : k % 7 = 6) :
    Calls Try.prog 16 #[.pointer none, .agg #[.int .u8 k, .int .i64 y]] w fun e w' => e = .returned (.tuple #[.int .i64 0, .bool false]) ∧ Ext w w' := by
  by_cases hy : y = 7
  · have hb : (y == 7) = true := by simp [hy]
    have HY := Lib.hid hy
    clear hy
    go_enter Try.func16, Try.ntmps16
    go_wp2_with fail
    refine (clear_nil _).mono ?_
    rintro e w2 ⟨rfl, rfl⟩
    go_wp2_with fail
    go_ret2
    exact ⟨rfl, Ext.alloc _ _⟩
  · have hb : (y == 7) = false := by simp [hy]
    have HY := Lib.hid hy
    clear hy
    go_enter Try.func16, Try.ntmps16
    go_wp2_with fail
    go_ret2
    exact ⟨rfl, Ext.alloc _ _⟩

/-- Does it say yes, though nobody is there? -/
def nilB (k : Int) : Bool := k % 7 == 5

theorem don_any (w : World) (k y : Int) (h0 : 0 ≤ k) (h1 : k ≤ 255) :
    Calls Try.prog 16 #[.pointer none, .agg #[.int .u8 k, .int .i64 y]] w fun e w' => e = .returned (.tuple #[.int .i64 0, .bool (nilB k)]) ∧ Ext w w' := by
  rcases (by omega : k % 7 = 0 ∨ k % 7 = 1 ∨ k % 7 = 2 ∨ k % 7 = 3 ∨ k % 7 = 4 ∨ k % 7 = 5 ∨ k % 7 = 6) with hk | hk | hk | hk | hk | hk | hk
  · rw [show nilB k = false by simp [nilB, hk]]
    exact don_0 w k y h0 h1 hk
  · rw [show nilB k = false by simp [nilB, hk]]
    exact don_1 w k y h0 h1 hk
  · rw [show nilB k = false by simp [nilB, hk]]
    exact don_2 w k y h0 h1 hk
  · rw [show nilB k = false by simp [nilB, hk]]
    exact don_3 w k y h0 h1 hk
  · rw [show nilB k = false by simp [nilB, hk]]
    exact don_4 w k y h0 h1 hk
  · rw [show nilB k = true by simp [nilB, hk]]
    exact don_5 w k y h0 h1 hk
  · rw [show nilB k = false by simp [nilB, hk]]
    exact don_6 w k y h0 h1 hk

end Go.Proofs.Ytdkblgbmbjagfaa
