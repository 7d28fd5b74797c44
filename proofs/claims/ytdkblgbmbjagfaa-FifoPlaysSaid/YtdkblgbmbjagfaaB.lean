/- What a ring in memory is: a block of 67 cells, and the list of numbers that it holds. Plain lemmas, no program. -/
import Derived.WalkKit
import Derived.Deep.QuietTactic
namespace Go.Proofs.Ytdkblgbmbjagfaa
open Go.RowKit

/-- The place of the i-th number of a ring. -/
def pl (s f i : Int) : Int := if f + i < s then f + i else f + i - s

theorem pl_bd (s f i : Int) (h0 : 0 ≤ f) (h1 : f < s) (h3 : 0 ≤ i) (h4 : i ≤ s) : 0 ≤ pl s f i ∧ pl s f i < s := by
  unfold pl; split <;> omega

theorem pl_inj (s f i j : Int) (h0 : 0 ≤ f) (h1 : f < s) (h3 : 0 ≤ i) (h4 : i < s) (h5 : 0 ≤ j) (h6 : j < s) (h : pl s f i = pl s f j) : i = j := by
  unfold pl at h; split at h <;> split at h <;> omega

/-- One further on. -/
theorem pl_next (s f i d : Int) (h0 : 0 ≤ f) (h1 : f < s) (h3 : 0 ≤ i) (hd : 0 ≤ d) (h4 : i + d ≤ s) : pl s (pl s f d) i = pl s f (i + d) ∨ (i = 0 ∧ d = s) := by
  unfold pl; repeat' split
  all_goals omega

/-- The one ahead of the first. -/
theorem pl_before (s f i : Int) (h0 : 0 ≤ f) (h1 : f < s) (h3 : 0 ≤ i) (h4 : i + 1 < s) : pl s (pl s f (s - 1)) (i + 1) = pl s f i := by
  unfold pl; repeat' split
  all_goals omega

theorem pl_zero (s f : Int) (h1 : f < s) : pl s f 0 = f := by
  unfold pl; rw [if_pos (by omega)]; omega

/-- A ring's cells. -/
def ringCells (xs : List Int) (s f m : Int) : List Value := xs.map (.int .i64) ++ [.int .i64 s, .int .i64 f, .int .i64 m]

/-- Block b is a ring of s places that begins at f and holds L. -/
structure RingX (w : World) (b : Nat) (s f : Int) (xs L : List Int) : Prop where
  len : xs.length = 64
  blk : ∃ T, w.heap[b]? = some (.cells (ringCells xs s f L.length).toArray T (0, 0))
  f0 : 0 ≤ f
  f1 : f < s
  s1 : s ≤ 64
  fit : (L.length : Int) ≤ s
  val : ∀ i : Nat, i < L.length → xs.getD (pl s f i).toNat 0 = L.getD i 0

def Ring (w : World) (b : Nat) (s : Int) (L : List Int) : Prop := ∃ f xs, RingX w b s f xs L

theorem ringCells_len (xs : List Int) (s f m : Int) (h : xs.length = 64) : (ringCells xs s f m).length = 67 := by simp [ringCells, h]

theorem cell_of_blk {w : World} {b : Nat} {c : List Value} {T : TypeId} (h : w.heap[b]? = some (.cells c.toArray T (0, 0))) (k : Nat) : w.cell? ⟨b, k, none⟩ = c[k]? := by
  simp [World.cell?, h]

theorem free_of_blk {w : World} {b : Nat} {c : List Value} {T : TypeId} (h : w.heap[b]? = some (.cells c.toArray T (0, 0))) (k : Nat) : w.frozen? ⟨b, k, none⟩ = false := by
  simp [World.frozen?, h]

theorem blk_set {w : World} {b : Nat} {c : List Value} {T : TypeId} (h : w.heap[b]? = some (.cells c.toArray T (0, 0))) (k : Nat) (v : Value) :
    (w.setCell ⟨b, k, none⟩ v).heap[b]? = some (.cells (c.set k v).toArray T (0, 0)) := by
  simp [World.setCell, Array.getElem?_modify, h]

namespace RingX
variable {w : World} {b : Nat} {s f : Int} {xs L : List Int}

theorem cs (h : RingX w b s f xs L) : w.cell? ⟨b, 64, none⟩ = some (.int .i64 s) := by
  obtain ⟨T, hb⟩ := h.blk
  rw [cell_of_blk hb, ringCells, List.getElem?_append_right (by simp [h.len])]; simp [h.len]
theorem cf (h : RingX w b s f xs L) : w.cell? ⟨b, 65, none⟩ = some (.int .i64 f) := by
  obtain ⟨T, hb⟩ := h.blk
  rw [cell_of_blk hb, ringCells, List.getElem?_append_right (by simp [h.len])]; simp [h.len]
theorem cm (h : RingX w b s f xs L) : w.cell? ⟨b, 66, none⟩ = some (.int .i64 L.length) := by
  obtain ⟨T, hb⟩ := h.blk
  rw [cell_of_blk hb, ringCells, List.getElem?_append_right (by simp [h.len])]; simp [h.len]
theorem free (h : RingX w b s f xs L) (k : Nat) : w.frozen? ⟨b, k, none⟩ = false := by
  obtain ⟨T, hb⟩ := h.blk
  exact free_of_blk hb k
theorem cell (h : RingX w b s f xs L) (k : Nat) (hk : k < 64) : w.cell? ⟨b, k, none⟩ = some (.int .i64 (xs.getD k 0)) := by
  obtain ⟨T, hb⟩ := h.blk
  have hl : k < xs.length := by rw [h.len]; exact hk
  rw [cell_of_blk hb, ringCells, List.getElem?_append_left (by simp [h.len]; exact hk)]
  simp [hl]
/-- The i-th number's place, and what lies there. -/
theorem at_ (h : RingX w b s f xs L) (i : Nat) (hi : (i : Int) < L.length) : ∃ k : Nat, pl s f i = k ∧ w.cell? ⟨b, k, none⟩ = some (.int .i64 (L.getD i 0)) := by
  have hf := h.fit
  have h64 := h.s1
  have hp := pl_bd s f i h.f0 h.f1 (by omega) (by omega)
  refine ⟨(pl s f i).toNat, by omega, ?_⟩
  rw [h.cell _ (by omega), h.val i (by omega)]
/-- A place, whatever lies there. -/
theorem spot (h : RingX w b s f xs L) (i : Int) (h3 : 0 ≤ i) (h4 : i ≤ s) : ∃ k : Nat, pl s f i = k ∧ k < 64 ∧ ∃ v, w.cell? ⟨b, k, none⟩ = some v := by
  have h64 := h.s1
  have hp := pl_bd s f i h.f0 h.f1 h3 h4
  exact ⟨(pl s f i).toNat, by omega, by omega, _, h.cell _ (by omega)⟩

/-- Of another world with the same block. -/
theorem of_blk {w' : World} (h : RingX w b s f xs L) (hb : w'.heap[b]? = w.heap[b]?) : RingX w' b s f xs L :=
  { len := h.len, blk := by rw [hb]; exact h.blk, f0 := h.f0, f1 := h.f1, s1 := h.s1, fit := h.fit, val := h.val }
end RingX

theorem set_64 (xs : List Int) (s f m v : Int) (h : xs.length = 64) : (ringCells xs s f m).set 65 (.int .i64 v) = ringCells xs s v m := by
  rw [ringCells, List.set_append_right _ _ (by simp [h]), ringCells]; simp [h]
theorem set_66 (xs : List Int) (s f m v : Int) (h : xs.length = 64) : (ringCells xs s f m).set 66 (.int .i64 v) = ringCells xs s f v := by
  rw [ringCells, List.set_append_right _ _ (by simp [h]), ringCells]; simp [h]
theorem set_lo (xs : List Int) (s f m v : Int) (h : xs.length = 64) (k : Nat) (hk : k < 64) : (ringCells xs s f m).set k (.int .i64 v) = ringCells (xs.set k v) s f m := by
  rw [ringCells, List.set_append_left _ _ (by simp [h]; exact hk), ringCells, List.map_set]

theorem getD_set_eq (xs : List Int) (k : Nat) (v : Int) (h : k < xs.length) : (xs.set k v).getD k 0 = v := by
  simp [List.getD_eq_getElem?_getD, h]
theorem getD_set_ne (xs : List Int) (k j : Nat) (v : Int) (h : k ≠ j) : (xs.set k v).getD j 0 = xs.getD j 0 := by
  simp [List.getD_eq_getElem?_getD, List.getElem?_set_ne h]

/-- Only block b may have changed; nothing is new. -/
structure Only (b : Nat) (w w' : World) : Prop where
  os : w'.os = w.os
  tape : w'.tape = w.tape
  output : w'.output = w.output
  size : w'.heap.size = w.heap.size
  block : ∀ k, k ≠ b → w'.heap[k]? = w.heap[k]?

theorem Only.refl (b : Nat) (w : World) : Only b w w := ⟨rfl, rfl, rfl, rfl, fun _ _ => rfl⟩
theorem Only.trans {b : Nat} {x y z : World} (h : Only b x y) (k : Only b y z) : Only b x z :=
  ⟨k.os.trans h.os, k.tape.trans h.tape, k.output.trans h.output, k.size.trans h.size, fun i hi => (k.block i hi).trans (h.block i hi)⟩
theorem Only.set {b : Nat} {x y : World} (h : Only b x y) (k : Nat) (v : Value) : Only b x (y.setCell ⟨b, k, none⟩ v) :=
  h.trans ⟨rfl, rfl, rfl, by simp [World.setCell], fun j hj => Below.heap_setCell _ _ _ _ hj⟩
theorem Only.drewN {b : Nat} {x y : World} (h : Only b x y) (n : Nat) : Only b x (y.drewN n) := ⟨h.os, h.tape, h.output, h.size, h.block⟩
theorem Only.drew {b : Nat} {x y : World} (h : Only b x y) : Only b x y.drew := ⟨h.os, h.tape, h.output, h.size, h.block⟩
theorem Only.below {b B : Nat} {x y : World} (h : Only b x y) (hB : B ≤ b) : Below B x y :=
  ⟨h.os, h.tape, h.output, by rw [h.size]; exact Nat.le_refl _, fun k hk => h.block k (by omega)⟩

/-- A number is put behind all others. -/
theorem ring_put {w : World} {b : Nat} {s f n : Int} {xs L : List Int} (h : RingX w b s f xs L) (hl : (L.length : Int) < s) {k : Nat} (hk : pl s f L.length = k) :
    RingX ((w.setCell ⟨b, k, none⟩ (.int .i64 n)).setCell ⟨b, 66, none⟩ (.int .i64 ((L.length : Int) + 1))) b s f (xs.set k n) (L ++ [n]) := by
  have h64 := h.s1
  have hp := pl_bd s f L.length h.f0 h.f1 (by omega) (by omega)
  refine ⟨by simp [h.len], ?_, h.f0, h.f1, h.s1, by simp; omega, ?_⟩
  · obtain ⟨T, hb⟩ := h.blk
    refine ⟨T, ?_⟩
    rw [blk_set (blk_set hb k _) 66, set_lo _ _ _ _ _ h.len k (by omega), set_66 _ _ _ _ _ (by simp [h.len])]
    simp
  · intro i hi
    simp at hi
    by_cases e : i = L.length
    · subst e
      rw [hk, Int.toNat_natCast, getD_set_eq _ _ _ (by rw [h.len]; omega)]
      simp
    · have hne : pl s f i ≠ k := fun e' => e (by
        have := pl_inj s f i L.length h.f0 h.f1 (by omega) (by omega) (by omega) (by omega) (by rw [e', hk]); omega)
      have hp' := pl_bd s f i h.f0 h.f1 (by omega) (by omega)
      rw [getD_set_ne _ _ _ _ (by omega), h.val i (by omega)]
      simp [List.getD_eq_getElem?_getD, List.getElem?_append_left (show i < L.length by omega)]

/-- A number is put ahead of all others. -/
theorem ring_push {w : World} {b : Nat} {s f n : Int} {xs L : List Int} (h : RingX w b s f xs L) (hl : (L.length : Int) < s) {k : Nat} (hk : pl s f (s - 1) = k) :
    RingX (((w.setCell ⟨b, 65, none⟩ (.int .i64 k)).setCell ⟨b, k, none⟩ (.int .i64 n)).setCell ⟨b, 66, none⟩ (.int .i64 ((L.length : Int) + 1))) b s k (xs.set k n) (n :: L) := by
  have h64 := h.s1
  have h0 := h.f0
  have h1 := h.f1
  have hp := pl_bd s f (s - 1) h.f0 h.f1 (by omega) (by omega)
  refine ⟨by simp [h.len], ?_, by omega, by omega, h.s1, by simp; omega, ?_⟩
  · obtain ⟨T, hb⟩ := h.blk
    refine ⟨T, ?_⟩
    rw [blk_set (blk_set (blk_set hb 65 _) k _) 66, set_64 _ _ _ _ _ h.len, set_lo _ _ _ _ _ h.len k (by omega), set_66 _ _ _ _ _ (by simp [h.len])]
    simp
  · intro i hi
    simp at hi
    cases i with
    | zero =>
      rw [show ((0 : Nat) : Int) = 0 from rfl, pl_zero s k (by omega), Int.toNat_natCast, getD_set_eq _ _ _ (by rw [h.len]; omega)]
      simp
    | succ i =>
      have e := pl_before s f i h0 h1 (by omega) (by omega)
      rw [hk] at e
      rw [show ((i + 1 : Nat) : Int) = (i : Int) + 1 by omega, e]
      have hne : pl s f i ≠ k := fun e' => by
        have := pl_inj s f i (s - 1) h.f0 h.f1 (by omega) (by omega) (by omega) (by omega) (by rw [e', hk]); omega
      have hp' := pl_bd s f i h.f0 h.f1 (by omega) (by omega)
      rw [getD_set_ne _ _ _ _ (by omega), h.val i (by omega)]
      simp

/-- Some numbers go at the front. -/
theorem ring_drop {w : World} {b : Nat} {s f : Int} {xs L : List Int} (h : RingX w b s f xs L) (d : Nat) (hd : d ≤ L.length) {k : Nat} (hk : pl s f d = k) :
    RingX ((w.setCell ⟨b, 65, none⟩ (.int .i64 k)).setCell ⟨b, 66, none⟩ (.int .i64 ((L.length : Int) - d))) b s k xs (L.drop d) := by
  have h64 := h.s1
  have h0 := h.f0
  have h1 := h.f1
  have hf := h.fit
  have hp := pl_bd s f d h.f0 h.f1 (by omega) (by omega)
  refine ⟨h.len, ?_, by omega, by omega, h.s1, by simp; omega, ?_⟩
  · obtain ⟨T, hb⟩ := h.blk
    refine ⟨T, ?_⟩
    rw [blk_set (blk_set hb 65 _) 66, set_64 _ _ _ _ _ h.len, set_66 _ _ _ _ _ h.len]
    simp only [List.length_drop]
    rw [show ((L.length - d : Nat) : Int) = (L.length : Int) - d by omega]
  · intro i hi
    simp at hi
    rcases pl_next s f i d h0 h1 (by omega) (by omega) (by omega) with e | ⟨_, e⟩
    · rw [← hk, e, show (i : Int) + d = ((i + d : Nat) : Int) by omega, h.val (i + d) (by omega)]
      simp [List.getD_eq_getElem?_getD, Nat.add_comm]
    · omega

/-- The last one goes. -/
theorem ring_last {w : World} {b : Nat} {s f : Int} {xs L : List Int} (h : RingX w b s f xs L) (hl : 0 < L.length) :
    RingX (w.setCell ⟨b, 66, none⟩ (.int .i64 ((L.length : Int) - 1))) b s f xs L.dropLast := by
  have hf := h.fit
  refine ⟨h.len, ?_, h.f0, h.f1, h.s1, by simp; omega, ?_⟩
  · obtain ⟨T, hb⟩ := h.blk
    refine ⟨T, ?_⟩
    rw [blk_set hb 66, set_66 _ _ _ _ _ h.len]
    simp only [List.length_dropLast]
    rw [show ((L.length - 1 : Nat) : Int) = (L.length : Int) - 1 by omega]
  · intro i hi
    simp at hi
    rw [h.val i (by omega)]
    have hi' : i < L.length := by omega
    simp [List.getD_eq_getElem?_getD, List.getElem?_dropLast, show i < L.length - 1 by omega, hi']

end Go.Proofs.Ytdkblgbmbjagfaa
