/- What a call does to the document's ring. -/
import Derived.Test.YtdkblgbmbjagfaaP
namespace Go.Proofs.Ytdkblgbmbjagfaa
open Go.RowKit

theorem RefR.form {w : World} {v : Value} {n : Int} {L : List Int} (h : RefR w v n L) : ∃ a m c, v = .agg #[.int .i64 n, .slice a m c] ∧ IntsV w (.slice a m c) L := by
  obtain ⟨s, rfl, hs⟩ := h
  obtain ⟨_, ⟨rfl, _⟩ | ⟨g, o, c, rfl, _⟩⟩ := id hs
  · exact ⟨_, _, _, rfl, hs⟩
  · exact ⟨_, _, _, rfl, hs⟩

/-- A slice that leads to no place of block b. -/
def Apart (s : Value) (b : Nat) : Prop := ∀ g o c l, s = .slice (some ⟨g, o, none⟩) l c → g ≠ b

theorem Src.apart {B b : Nat} {x s s' : Value} (h : Src B (.agg #[x, s]) (.agg #[x, s'])) (hb : b < B) (ha : Apart s b) : Apart s' b := fun g o c l he => by
  subst he
  rcases h x g o c l rfl with h | ⟨o', c', l', h⟩
  · omega
  · exact ha g o' c' l' (agg2 h).2

theorem IntsV.below {w : World} {s : Value} {l : List Int} (h : IntsV w s l) : ∀ g o c l', s = .slice (some ⟨g, o, none⟩) l' c → g < w.heap.size := by
  obtain ⟨_, ⟨rfl, _⟩ | ⟨g, o, c, rfl, hl, _⟩⟩ := h
  · intro g o c l' he; cases he
  · intro g' o' c' l' he; cases he; exact hl.2


set_option maxHeartbeats 1000000 in
theorem model_0 (w : World) (n : Int) (L : List Int) (k y : Int) (v : Value) (h0 : 0 ≤ k) (h1 : k ≤ 255) (hk : k % 7 = 0) (h : RefR w v n L) (hl : L.length ≤ 900000) :
    Calls Try.prog 17 #[v, .agg #[.int .u8 k, .int .i64 y]] w (Rets n v (putL n L y) [.int .i64 0, .bool (fits n L)] w) := by
  obtain ⟨a, m, c, rfl, hi⟩ := h.form
  clear h
  have hb := hi.below
  have HI := Lib.hid hi
  have HB := Lib.hid hb
  clear hi hb
  go_enter Try.func17, Try.ntmps17
  go_wp2_with fail
  obtain ⟨w0, hw0⟩ : ∃ w0, w0 = ((w.alloc (.cells #[.int .i64 n, .slice a m c] 38)).alloc (.cells #[.int .u8 k, .int .i64 y] 31)).alloc (.cells #[.int .i64 0, .slice none 0 0] 38) := ⟨_, rfl⟩
  rw [← hw0]
  have x0 : Ext w w0 := hw0 ▸ ((Ext.alloc _ _).al _).al _
  have b2 : w0.cell? ⟨w.heap.size + 1 + 1, 0, none⟩ = some (.int .i64 0) := by rw [hw0]; go_simp
  have b3 : w0.cell? ⟨w.heap.size + 1 + 1, 1, none⟩ = some (.slice none 0 0) := by rw [hw0]; go_simp
  have f2 : w0.frozen? ⟨w.heap.size + 1 + 1, 0, none⟩ = false := by rw [hw0]; go_simp
  have f3 : w0.frozen? ⟨w.heap.size + 1 + 1, 1, none⟩ = false := by rw [hw0]; go_simp
  have s0 : w.heap.size + 3 = w0.heap.size := by rw [hw0]; simp
  clear hw0
  refine (put_ref w0 _ n L y (RefR.ext ⟨_, rfl, HI.out⟩ x0) hl).mono ?_
  rintro e w2 ⟨v2, rfl, hr, hs, x2⟩
  obtain ⟨a2, m2, c2, rfl, hi2⟩ := hr.form
  have ap : Apart (.slice a2 m2 c2) (w.heap.size + 1 + 1) := hs.apart (by omega) (fun g o c l he => by have := HB.out g o c l he; omega)
  have src : Src w.heap.size (.agg #[.int .i64 n, .slice a m c]) (.agg #[.int .i64 n, .slice a2 m2 c2]) := fun n' g o c l he => (hs n' g o c l he).imp (fun h => by omega) id
  have b2 := x2.cell_some b2
  have b3 := x2.cell_some b3
  have f2 : w2.frozen? ⟨w.heap.size + 1 + 1, 0, none⟩ = false := (x2.frozen (by show w.heap.size + 1 + 1 < _; omega)).trans f2
  have f3 : w2.frozen? ⟨w.heap.size + 1 + 1, 1, none⟩ = false := (x2.frozen (by show w.heap.size + 1 + 1 < _; omega)).trans f3
  have b2' : ∀ o1, (w2.alloc o1).cell? ⟨w.heap.size + 1 + 1, 0, none⟩ = some (.int .i64 0) := fun o1 => (Ext.alloc w2 o1).cell_some b2
  have b3' : ∀ o1, (w2.alloc o1).cell? ⟨w.heap.size + 1 + 1, 1, none⟩ = some (.slice none 0 0) := fun o1 => (Ext.alloc w2 o1).cell_some b3
  have f2' : ∀ o1, (w2.alloc o1).frozen? ⟨w.heap.size + 1 + 1, 0, none⟩ = false := fun o1 => ((Ext.alloc w2 o1).frozen (by show w.heap.size + 1 + 1 < _; have := x2.size; omega)).trans f2
  have f3' : ∀ o1, (w2.alloc o1).frozen? ⟨w.heap.size + 1 + 1, 1, none⟩ = false := fun o1 => ((Ext.alloc w2 o1).frozen (by show w.heap.size + 1 + 1 < _; have := x2.size; omega)).trans f3
  have HS := Lib.hid src
  have HA := Lib.hid ap
  have HI2 := Lib.hid hi2
  have s2 := x2.size
  clear hs hr src ap hi2
  go_wp2_with fail
  refine bodyPost_ret (v := .tuple #[.agg #[.int .i64 n, .slice a2 m2 c2], .int .i64 0, .bool (fits n L)]) (by simp [results, Try.results17, go_sem, b2, b3, f2, f3, b2', b3', f2', f3']) rfl ⟨_, rfl, ⟨_, rfl, ?_⟩, HS.out, ?_⟩
  · exact ((HI2.out.ext (Ext.alloc _ _)).other HA.out).other HA.out
  · exact (((x0.trans x2).al _).set (by omega) _).set (by omega) _

set_option maxHeartbeats 1000000 in
theorem model_1 (w : World) (n : Int) (L : List Int) (k y : Int) (v : Value) (h0 : 0 ≤ k) (h1 : k ≤ 255) (hk : k % 7 = 1) (h : RefR w v n L) (hl : L.length ≤ 900000) :
    Calls Try.prog 17 #[v, .agg #[.int .u8 k, .int .i64 y]] w (Rets n v (putL n L y) [.int .i64 0, .bool (fits n L)] w) := by
  obtain ⟨a, m, c, rfl, hi⟩ := h.form
  clear h
  have hb := hi.below
  have HI := Lib.hid hi
  have HB := Lib.hid hb
  clear hi hb
  go_enter Try.func17, Try.ntmps17
  go_wp2_with fail
  obtain ⟨w0, hw0⟩ : ∃ w0, w0 = ((w.alloc (.cells #[.int .i64 n, .slice a m c] 38)).alloc (.cells #[.int .u8 k, .int .i64 y] 31)).alloc (.cells #[.int .i64 0, .slice none 0 0] 38) := ⟨_, rfl⟩
  rw [← hw0]
  have x0 : Ext w w0 := hw0 ▸ ((Ext.alloc _ _).al _).al _
  have b2 : w0.cell? ⟨w.heap.size + 1 + 1, 0, none⟩ = some (.int .i64 0) := by rw [hw0]; go_simp
  have b3 : w0.cell? ⟨w.heap.size + 1 + 1, 1, none⟩ = some (.slice none 0 0) := by rw [hw0]; go_simp
  have f2 : w0.frozen? ⟨w.heap.size + 1 + 1, 0, none⟩ = false := by rw [hw0]; go_simp
  have f3 : w0.frozen? ⟨w.heap.size + 1 + 1, 1, none⟩ = false := by rw [hw0]; go_simp
  have s0 : w.heap.size + 3 = w0.heap.size := by rw [hw0]; simp
  clear hw0
  refine (put_ref w0 _ n L y (RefR.ext ⟨_, rfl, HI.out⟩ x0) hl).mono ?_
  rintro e w2 ⟨v2, rfl, hr, hs, x2⟩
  obtain ⟨a2, m2, c2, rfl, hi2⟩ := hr.form
  have ap : Apart (.slice a2 m2 c2) (w.heap.size + 1 + 1) := hs.apart (by omega) (fun g o c l he => by have := HB.out g o c l he; omega)
  have src : Src w.heap.size (.agg #[.int .i64 n, .slice a m c]) (.agg #[.int .i64 n, .slice a2 m2 c2]) := fun n' g o c l he => (hs n' g o c l he).imp (fun h => by omega) id
  have b2 := x2.cell_some b2
  have b3 := x2.cell_some b3
  have f2 : w2.frozen? ⟨w.heap.size + 1 + 1, 0, none⟩ = false := (x2.frozen (by show w.heap.size + 1 + 1 < _; omega)).trans f2
  have f3 : w2.frozen? ⟨w.heap.size + 1 + 1, 1, none⟩ = false := (x2.frozen (by show w.heap.size + 1 + 1 < _; omega)).trans f3
  have b2' : ∀ o1, (w2.alloc o1).cell? ⟨w.heap.size + 1 + 1, 0, none⟩ = some (.int .i64 0) := fun o1 => (Ext.alloc w2 o1).cell_some b2
  have b3' : ∀ o1, (w2.alloc o1).cell? ⟨w.heap.size + 1 + 1, 1, none⟩ = some (.slice none 0 0) := fun o1 => (Ext.alloc w2 o1).cell_some b3
  have f2' : ∀ o1, (w2.alloc o1).frozen? ⟨w.heap.size + 1 + 1, 0, none⟩ = false := fun o1 => ((Ext.alloc w2 o1).frozen (by show w.heap.size + 1 + 1 < _; have := x2.size; omega)).trans f2
  have f3' : ∀ o1, (w2.alloc o1).frozen? ⟨w.heap.size + 1 + 1, 1, none⟩ = false := fun o1 => ((Ext.alloc w2 o1).frozen (by show w.heap.size + 1 + 1 < _; have := x2.size; omega)).trans f3
  have HS := Lib.hid src
  have HA := Lib.hid ap
  have HI2 := Lib.hid hi2
  have s2 := x2.size
  clear hs hr src ap hi2
  go_wp2_with fail
  refine bodyPost_ret (v := .tuple #[.agg #[.int .i64 n, .slice a2 m2 c2], .int .i64 0, .bool (fits n L)]) (by simp [results, Try.results17, go_sem, b2, b3, f2, f3, b2', b3', f2', f3']) rfl ⟨_, rfl, ⟨_, rfl, ?_⟩, HS.out, ?_⟩
  · exact ((HI2.out.ext (Ext.alloc _ _)).other HA.out).other HA.out
  · exact (((x0.trans x2).al _).set (by omega) _).set (by omega) _

set_option maxHeartbeats 1000000 in
theorem model_2 (w : World) (n : Int) (L : List Int) (k y : Int) (v : Value) (h0 : 0 ≤ k) (h1 : k ≤ 255) (hk : k % 7 = 2) (h : RefR w v n L) (hl : L.length ≤ 900000) :
    Calls Try.prog 17 #[v, .agg #[.int .u8 k, .int .i64 y]] w (Rets n v (pushL n L y) [.int .i64 0, .bool (fits n L)] w) := by
  obtain ⟨a, m, c, rfl, hi⟩ := h.form
  clear h
  have hb := hi.below
  have HI := Lib.hid hi
  have HB := Lib.hid hb
  clear hi hb
  go_enter Try.func17, Try.ntmps17
  go_wp2_with fail
  obtain ⟨w0, hw0⟩ : ∃ w0, w0 = ((w.alloc (.cells #[.int .i64 n, .slice a m c] 38)).alloc (.cells #[.int .u8 k, .int .i64 y] 31)).alloc (.cells #[.int .i64 0, .slice none 0 0] 38) := ⟨_, rfl⟩
  rw [← hw0]
  have x0 : Ext w w0 := hw0 ▸ ((Ext.alloc _ _).al _).al _
  have b2 : w0.cell? ⟨w.heap.size + 1 + 1, 0, none⟩ = some (.int .i64 0) := by rw [hw0]; go_simp
  have b3 : w0.cell? ⟨w.heap.size + 1 + 1, 1, none⟩ = some (.slice none 0 0) := by rw [hw0]; go_simp
  have f2 : w0.frozen? ⟨w.heap.size + 1 + 1, 0, none⟩ = false := by rw [hw0]; go_simp
  have f3 : w0.frozen? ⟨w.heap.size + 1 + 1, 1, none⟩ = false := by rw [hw0]; go_simp
  have s0 : w.heap.size + 3 = w0.heap.size := by rw [hw0]; simp
  clear hw0
  refine (push_ref w0 _ n L y (RefR.ext ⟨_, rfl, HI.out⟩ x0) hl).mono ?_
  rintro e w2 ⟨v2, rfl, hr, hs, x2⟩
  obtain ⟨a2, m2, c2, rfl, hi2⟩ := hr.form
  have ap : Apart (.slice a2 m2 c2) (w.heap.size + 1 + 1) := hs.apart (by omega) (fun g o c l he => by have := HB.out g o c l he; omega)
  have src : Src w.heap.size (.agg #[.int .i64 n, .slice a m c]) (.agg #[.int .i64 n, .slice a2 m2 c2]) := fun n' g o c l he => (hs n' g o c l he).imp (fun h => by omega) id
  have b2 := x2.cell_some b2
  have b3 := x2.cell_some b3
  have f2 : w2.frozen? ⟨w.heap.size + 1 + 1, 0, none⟩ = false := (x2.frozen (by show w.heap.size + 1 + 1 < _; omega)).trans f2
  have f3 : w2.frozen? ⟨w.heap.size + 1 + 1, 1, none⟩ = false := (x2.frozen (by show w.heap.size + 1 + 1 < _; omega)).trans f3
  have b2' : ∀ o1, (w2.alloc o1).cell? ⟨w.heap.size + 1 + 1, 0, none⟩ = some (.int .i64 0) := fun o1 => (Ext.alloc w2 o1).cell_some b2
  have b3' : ∀ o1, (w2.alloc o1).cell? ⟨w.heap.size + 1 + 1, 1, none⟩ = some (.slice none 0 0) := fun o1 => (Ext.alloc w2 o1).cell_some b3
  have f2' : ∀ o1, (w2.alloc o1).frozen? ⟨w.heap.size + 1 + 1, 0, none⟩ = false := fun o1 => ((Ext.alloc w2 o1).frozen (by show w.heap.size + 1 + 1 < _; have := x2.size; omega)).trans f2
  have f3' : ∀ o1, (w2.alloc o1).frozen? ⟨w.heap.size + 1 + 1, 1, none⟩ = false := fun o1 => ((Ext.alloc w2 o1).frozen (by show w.heap.size + 1 + 1 < _; have := x2.size; omega)).trans f3
  have HS := Lib.hid src
  have HA := Lib.hid ap
  have HI2 := Lib.hid hi2
  have s2 := x2.size
  clear hs hr src ap hi2
  go_wp2_with fail
  refine bodyPost_ret (v := .tuple #[.agg #[.int .i64 n, .slice a2 m2 c2], .int .i64 0, .bool (fits n L)]) (by simp [results, Try.results17, go_sem, b2, b3, f2, f3, b2', b3', f2', f3']) rfl ⟨_, rfl, ⟨_, rfl, ?_⟩, HS.out, ?_⟩
  · exact ((HI2.out.ext (Ext.alloc _ _)).other HA.out).other HA.out
  · exact (((x0.trans x2).al _).set (by omega) _).set (by omega) _

set_option maxHeartbeats 1000000 in
theorem model_3 (w : World) (n : Int) (L : List Int) (k y : Int) (v : Value) (h0 : 0 ≤ k) (h1 : k ≤ 255) (hk : k % 7 = 3) (h : RefR w v n L) (hl : L.length ≤ 900000) :
    Calls Try.prog 17 #[v, .agg #[.int .u8 k, .int .i64 y]] w (Rets n v (L.tail) [.int .i64 (headV L), .bool (some' L)] w) := by
  obtain ⟨a, m, c, rfl, hi⟩ := h.form
  clear h
  have hb := hi.below
  have HI := Lib.hid hi
  have HB := Lib.hid hb
  clear hi hb
  go_enter Try.func17, Try.ntmps17
  go_wp2_with fail
  obtain ⟨w0, hw0⟩ : ∃ w0, w0 = ((w.alloc (.cells #[.int .i64 n, .slice a m c] 38)).alloc (.cells #[.int .u8 k, .int .i64 y] 31)).alloc (.cells #[.int .i64 0, .slice none 0 0] 38) := ⟨_, rfl⟩
  rw [← hw0]
  have x0 : Ext w w0 := hw0 ▸ ((Ext.alloc _ _).al _).al _
  have b2 : w0.cell? ⟨w.heap.size + 1 + 1, 0, none⟩ = some (.int .i64 0) := by rw [hw0]; go_simp
  have b3 : w0.cell? ⟨w.heap.size + 1 + 1, 1, none⟩ = some (.slice none 0 0) := by rw [hw0]; go_simp
  have f2 : w0.frozen? ⟨w.heap.size + 1 + 1, 0, none⟩ = false := by rw [hw0]; go_simp
  have f3 : w0.frozen? ⟨w.heap.size + 1 + 1, 1, none⟩ = false := by rw [hw0]; go_simp
  have s0 : w.heap.size + 3 = w0.heap.size := by rw [hw0]; simp
  clear hw0
  refine (take_ref w0 _ n L (RefR.ext ⟨_, rfl, HI.out⟩ x0)).mono ?_
  rintro e w2 ⟨v2, rfl, hr, hs, x2⟩
  obtain ⟨a2, m2, c2, rfl, hi2⟩ := hr.form
  have ap : Apart (.slice a2 m2 c2) (w.heap.size + 1 + 1) := hs.apart (by omega) (fun g o c l he => by have := HB.out g o c l he; omega)
  have src : Src w.heap.size (.agg #[.int .i64 n, .slice a m c]) (.agg #[.int .i64 n, .slice a2 m2 c2]) := fun n' g o c l he => (hs n' g o c l he).imp (fun h => by omega) id
  have b2 := x2.cell_some b2
  have b3 := x2.cell_some b3
  have f2 : w2.frozen? ⟨w.heap.size + 1 + 1, 0, none⟩ = false := (x2.frozen (by show w.heap.size + 1 + 1 < _; omega)).trans f2
  have f3 : w2.frozen? ⟨w.heap.size + 1 + 1, 1, none⟩ = false := (x2.frozen (by show w.heap.size + 1 + 1 < _; omega)).trans f3
  have b2' : ∀ o1, (w2.alloc o1).cell? ⟨w.heap.size + 1 + 1, 0, none⟩ = some (.int .i64 0) := fun o1 => (Ext.alloc w2 o1).cell_some b2
  have b3' : ∀ o1, (w2.alloc o1).cell? ⟨w.heap.size + 1 + 1, 1, none⟩ = some (.slice none 0 0) := fun o1 => (Ext.alloc w2 o1).cell_some b3
  have f2' : ∀ o1, (w2.alloc o1).frozen? ⟨w.heap.size + 1 + 1, 0, none⟩ = false := fun o1 => ((Ext.alloc w2 o1).frozen (by show w.heap.size + 1 + 1 < _; have := x2.size; omega)).trans f2
  have f3' : ∀ o1, (w2.alloc o1).frozen? ⟨w.heap.size + 1 + 1, 1, none⟩ = false := fun o1 => ((Ext.alloc w2 o1).frozen (by show w.heap.size + 1 + 1 < _; have := x2.size; omega)).trans f3
  have HS := Lib.hid src
  have HA := Lib.hid ap
  have HI2 := Lib.hid hi2
  have s2 := x2.size
  clear hs hr src ap hi2
  go_wp2_with fail
  refine bodyPost_ret (v := .tuple #[.agg #[.int .i64 n, .slice a2 m2 c2], .int .i64 (headV L), .bool (some' L)]) (by simp [results, Try.results17, go_sem, b2, b3, f2, f3, b2', b3', f2', f3']) rfl ⟨_, rfl, ⟨_, rfl, ?_⟩, HS.out, ?_⟩
  · exact (HI2.out.other HA.out).other HA.out
  · exact ((x0.trans x2).set (by omega) _).set (by omega) _

set_option maxHeartbeats 1000000 in
theorem model_4 (w : World) (n : Int) (L : List Int) (k y : Int) (v : Value) (h0 : 0 ≤ k) (h1 : k ≤ 255) (hk : k % 7 = 4) (h : RefR w v n L) (hl : L.length ≤ 900000) :
    Calls Try.prog 17 #[v, .agg #[.int .u8 k, .int .i64 y]] w (Rets n v (L.dropLast) [.int .i64 (lastV L), .bool (some' L)] w) := by
  obtain ⟨a, m, c, rfl, hi⟩ := h.form
  clear h
  have hb := hi.below
  have HI := Lib.hid hi
  have HB := Lib.hid hb
  clear hi hb
  go_enter Try.func17, Try.ntmps17
  go_wp2_with fail
  obtain ⟨w0, hw0⟩ : ∃ w0, w0 = ((w.alloc (.cells #[.int .i64 n, .slice a m c] 38)).alloc (.cells #[.int .u8 k, .int .i64 y] 31)).alloc (.cells #[.int .i64 0, .slice none 0 0] 38) := ⟨_, rfl⟩
  rw [← hw0]
  have x0 : Ext w w0 := hw0 ▸ ((Ext.alloc _ _).al _).al _
  have b2 : w0.cell? ⟨w.heap.size + 1 + 1, 0, none⟩ = some (.int .i64 0) := by rw [hw0]; go_simp
  have b3 : w0.cell? ⟨w.heap.size + 1 + 1, 1, none⟩ = some (.slice none 0 0) := by rw [hw0]; go_simp
  have f2 : w0.frozen? ⟨w.heap.size + 1 + 1, 0, none⟩ = false := by rw [hw0]; go_simp
  have f3 : w0.frozen? ⟨w.heap.size + 1 + 1, 1, none⟩ = false := by rw [hw0]; go_simp
  have s0 : w.heap.size + 3 = w0.heap.size := by rw [hw0]; simp
  clear hw0
  refine (last_ref w0 _ n L (RefR.ext ⟨_, rfl, HI.out⟩ x0)).mono ?_
  rintro e w2 ⟨v2, rfl, hr, hs, x2⟩
  obtain ⟨a2, m2, c2, rfl, hi2⟩ := hr.form
  have ap : Apart (.slice a2 m2 c2) (w.heap.size + 1 + 1) := hs.apart (by omega) (fun g o c l he => by have := HB.out g o c l he; omega)
  have src : Src w.heap.size (.agg #[.int .i64 n, .slice a m c]) (.agg #[.int .i64 n, .slice a2 m2 c2]) := fun n' g o c l he => (hs n' g o c l he).imp (fun h => by omega) id
  have b2 := x2.cell_some b2
  have b3 := x2.cell_some b3
  have f2 : w2.frozen? ⟨w.heap.size + 1 + 1, 0, none⟩ = false := (x2.frozen (by show w.heap.size + 1 + 1 < _; omega)).trans f2
  have f3 : w2.frozen? ⟨w.heap.size + 1 + 1, 1, none⟩ = false := (x2.frozen (by show w.heap.size + 1 + 1 < _; omega)).trans f3
  have b2' : ∀ o1, (w2.alloc o1).cell? ⟨w.heap.size + 1 + 1, 0, none⟩ = some (.int .i64 0) := fun o1 => (Ext.alloc w2 o1).cell_some b2
  have b3' : ∀ o1, (w2.alloc o1).cell? ⟨w.heap.size + 1 + 1, 1, none⟩ = some (.slice none 0 0) := fun o1 => (Ext.alloc w2 o1).cell_some b3
  have f2' : ∀ o1, (w2.alloc o1).frozen? ⟨w.heap.size + 1 + 1, 0, none⟩ = false := fun o1 => ((Ext.alloc w2 o1).frozen (by show w.heap.size + 1 + 1 < _; have := x2.size; omega)).trans f2
  have f3' : ∀ o1, (w2.alloc o1).frozen? ⟨w.heap.size + 1 + 1, 1, none⟩ = false := fun o1 => ((Ext.alloc w2 o1).frozen (by show w.heap.size + 1 + 1 < _; have := x2.size; omega)).trans f3
  have HS := Lib.hid src
  have HA := Lib.hid ap
  have HI2 := Lib.hid hi2
  have s2 := x2.size
  clear hs hr src ap hi2
  go_wp2_with fail
  refine bodyPost_ret (v := .tuple #[.agg #[.int .i64 n, .slice a2 m2 c2], .int .i64 (lastV L), .bool (some' L)]) (by simp [results, Try.results17, go_sem, b2, b3, f2, f3, b2', b3', f2', f3']) rfl ⟨_, rfl, ⟨_, rfl, ?_⟩, HS.out, ?_⟩
  · exact (HI2.out.other HA.out).other HA.out
  · exact ((x0.trans x2).set (by omega) _).set (by omega) _

set_option maxHeartbeats 1000000 in
theorem model_5 (w : World) (n : Int) (L : List Int) (k y : Int) (v : Value) (h0 : 0 ≤ k) (h1 : k ≤ 255) (hk : k % 7 = 5) (h : RefR w v n L) (hl : L.length ≤ 900000) :
    Calls Try.prog 17 #[v, .agg #[.int .u8 k, .int .i64 y]] w (Rets n v (L.drop (dropN L y).toNat) [.int .i64 (dropN L y), .bool true] w) := by
  obtain ⟨a, m, c, rfl, hi⟩ := h.form
  clear h
  have hb := hi.below
  have HI := Lib.hid hi
  have HB := Lib.hid hb
  clear hi hb
  go_enter Try.func17, Try.ntmps17
  go_wp2_with fail
  obtain ⟨w0, hw0⟩ : ∃ w0, w0 = ((w.alloc (.cells #[.int .i64 n, .slice a m c] 38)).alloc (.cells #[.int .u8 k, .int .i64 y] 31)).alloc (.cells #[.int .i64 0, .slice none 0 0] 38) := ⟨_, rfl⟩
  rw [← hw0]
  have x0 : Ext w w0 := hw0 ▸ ((Ext.alloc _ _).al _).al _
  have b2 : w0.cell? ⟨w.heap.size + 1 + 1, 0, none⟩ = some (.int .i64 0) := by rw [hw0]; go_simp
  have b3 : w0.cell? ⟨w.heap.size + 1 + 1, 1, none⟩ = some (.slice none 0 0) := by rw [hw0]; go_simp
  have f2 : w0.frozen? ⟨w.heap.size + 1 + 1, 0, none⟩ = false := by rw [hw0]; go_simp
  have f3 : w0.frozen? ⟨w.heap.size + 1 + 1, 1, none⟩ = false := by rw [hw0]; go_simp
  have s0 : w.heap.size + 3 = w0.heap.size := by rw [hw0]; simp
  clear hw0
  refine (drop_ref w0 _ n L y (RefR.ext ⟨_, rfl, HI.out⟩ x0)).mono ?_
  rintro e w2 ⟨v2, rfl, hr, hs, x2⟩
  obtain ⟨a2, m2, c2, rfl, hi2⟩ := hr.form
  have ap : Apart (.slice a2 m2 c2) (w.heap.size + 1 + 1) := hs.apart (by omega) (fun g o c l he => by have := HB.out g o c l he; omega)
  have src : Src w.heap.size (.agg #[.int .i64 n, .slice a m c]) (.agg #[.int .i64 n, .slice a2 m2 c2]) := fun n' g o c l he => (hs n' g o c l he).imp (fun h => by omega) id
  have b2 := x2.cell_some b2
  have b3 := x2.cell_some b3
  have f2 : w2.frozen? ⟨w.heap.size + 1 + 1, 0, none⟩ = false := (x2.frozen (by show w.heap.size + 1 + 1 < _; omega)).trans f2
  have f3 : w2.frozen? ⟨w.heap.size + 1 + 1, 1, none⟩ = false := (x2.frozen (by show w.heap.size + 1 + 1 < _; omega)).trans f3
  have b2' : ∀ o1, (w2.alloc o1).cell? ⟨w.heap.size + 1 + 1, 0, none⟩ = some (.int .i64 0) := fun o1 => (Ext.alloc w2 o1).cell_some b2
  have b3' : ∀ o1, (w2.alloc o1).cell? ⟨w.heap.size + 1 + 1, 1, none⟩ = some (.slice none 0 0) := fun o1 => (Ext.alloc w2 o1).cell_some b3
  have f2' : ∀ o1, (w2.alloc o1).frozen? ⟨w.heap.size + 1 + 1, 0, none⟩ = false := fun o1 => ((Ext.alloc w2 o1).frozen (by show w.heap.size + 1 + 1 < _; have := x2.size; omega)).trans f2
  have f3' : ∀ o1, (w2.alloc o1).frozen? ⟨w.heap.size + 1 + 1, 1, none⟩ = false := fun o1 => ((Ext.alloc w2 o1).frozen (by show w.heap.size + 1 + 1 < _; have := x2.size; omega)).trans f3
  have HS := Lib.hid src
  have HA := Lib.hid ap
  have HI2 := Lib.hid hi2
  have s2 := x2.size
  clear hs hr src ap hi2
  go_wp2_with fail
  refine bodyPost_ret (v := .tuple #[.agg #[.int .i64 n, .slice a2 m2 c2], .int .i64 (dropN L y), .bool true]) (by simp [results, Try.results17, go_sem, b2, b3, f2, f3, b2', b3', f2', f3']) rfl ⟨_, rfl, ⟨_, rfl, ?_⟩, HS.out, ?_⟩
  · exact ((HI2.out.ext (Ext.alloc _ _)).other HA.out).other HA.out
  · exact (((x0.trans x2).al _).set (by omega) _).set (by omega) _

end Go.Proofs.Ytdkblgbmbjagfaa
