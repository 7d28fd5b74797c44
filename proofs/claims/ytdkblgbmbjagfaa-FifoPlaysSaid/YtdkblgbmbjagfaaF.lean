/- What each method of a ring answers, and what the ring holds behind it, said of lists. -/
import Derived.Test.YtdkblgbmbjagfaaE
namespace Go.Proofs.Ytdkblgbmbjagfaa
open Go.RowKit

/-- Is there room? -/
def fits (s : Int) (L : List Int) : Bool := decide ((L.length : Int) < s)
def putL (s : Int) (L : List Int) (n : Int) : List Int := if fits s L = true then L ++ [n] else L
def pushL (s : Int) (L : List Int) (n : Int) : List Int := if fits s L = true then n :: L else L
def some' (L : List Int) : Bool := !L.isEmpty
def headV (L : List Int) : Int := L.headD 0
def lastV (L : List Int) : Int := L.getLastD 0
def inB (L : List Int) (i : Int) : Bool := decide (0 ≤ i) && decide (i < L.length)
def atV (L : List Int) (i : Int) : Int := if inB L i = true then L.getD i.toNat 0 else 0
def dropN (L : List Int) (n : Int) : Int := max 0 (min n L.length)

/-- A call returns v, the ring at b then holds L, and nothing else that was there has turned. -/
def Does (b : Nat) (s : Int) (w : World) (v : Value) (L : List Int) (e : Ending) (w' : World) : Prop := e = .returned v ∧ Ring w' b s L ∧ w.grownBy w' (some b)

theorem Only.grown {b : Nat} {w w' : World} (h : Only b w w') : w.grownBy w' (some b) :=
  ⟨h.os, h.tape, h.output, Nat.le_of_eq h.size.symm, fun k _ hk => h.block k (fun e => hk (by rw [e]))⟩

theorem Ext.grown {w w' : World} (h : Ext w w') (r : Option Nat) : w.grownBy w' r := ⟨h.os, h.tape, h.output, h.size, fun k hk _ => h.block k hk⟩

theorem grown_trans {w1 w2 w3 : World} {b : Nat} (h : w1.grownBy w2 (some b)) (k : w2.grownBy w3 (some b)) : w1.grownBy w3 (some b) :=
  ⟨k.os.trans h.os, k.tape.trans h.tape, k.output.trans h.output, Nat.le_trans h.size k.size, fun i hi hn => (k.block i (Nat.lt_of_lt_of_le hi h.size) hn).trans (h.block i hi hn)⟩

theorem Ring.lt {w : World} {b : Nat} {s : Int} {L : List Int} (h : Ring w b s L) : b < w.heap.size := by
  obtain ⟨f, xs, hr⟩ := h
  obtain ⟨T, hb⟩ := hr.blk
  exact (Array.getElem?_eq_some_iff.1 hb).1

theorem Ring.ext {w w' : World} {b : Nat} {s : Int} {L : List Int} (h : Ring w b s L) (hx : Ext w w') : Ring w' b s L := by
  have hl := h.lt
  obtain ⟨f, xs, hr⟩ := h
  exact ⟨f, xs, hr.of_blk (hx.block b hl)⟩

theorem does_same {b : Nat} {s : Int} {w : World} {v : Value} {L : List Int} (h : Ring w b s L) {e : Ending} {w' : World} (he : e = .returned v ∧ w' = w) : Does b s w v L e w' :=
  ⟨he.1, he.2 ▸ h, by rw [he.2]; exact (Only.refl b w).grown⟩

theorem does_drew {b : Nat} {s : Int} {w : World} {v : Value} {L : List Int} (h : Ring w b s L) {e : Ending} {w' : World} (he : e = .returned v ∧ w' = w.drew) : Does b s w v L e w' :=
  ⟨he.1, by rw [he.2]; exact h.ext (Ext.drew w), by rw [he.2]; exact (Ext.drew w).grown _⟩

variable (w : World) (b : Nat) (s : Int) (L : List Int)

theorem len_ring (h : Ring w b s L) : Calls Try.prog 11 #[.pointer (some ⟨b, 0, none⟩)] w fun e w' => e = .returned (.int .i64 L.length) ∧ w' = w := by
  obtain ⟨f, xs, hr⟩ := h
  exact len_some w b _ hr.cm

theorem room_ring (h : Ring w b s L) : Calls Try.prog 12 #[.pointer (some ⟨b, 0, none⟩)] w fun e w' => e = .returned (.int .i64 (s - L.length)) ∧ w' = w.drew := by
  obtain ⟨f, xs, hr⟩ := h
  exact room_some w b s _ hr.cs hr.cm (by omega) hr.fit hr.s1

theorem put_ring (n : Int) (h : Ring w b s L) : Calls Try.prog 9 #[.pointer (some ⟨b, 0, none⟩), .int .i64 n] w (Does b s w (.bool (fits s L)) (putL s L n)) := by
  have h' := h
  obtain ⟨f, xs, hr⟩ := h
  have hf := hr.fit
  by_cases hl : (L.length : Int) < s
  · have e1 : fits s L = true := by simp [fits, hl]
    obtain ⟨k, hk, hk64, v, cv⟩ := hr.spot L.length (by omega) hf
    refine (put_room w b s f L.length n hr.cs hr.cf hr.cm v k hk cv (hr.free _) (hr.free _) hr.f0 hr.f1 hr.s1 (by omega) hl).mono ?_
    rintro e w' ⟨rfl, rfl⟩
    rw [e1, putL, if_pos e1]
    exact ⟨rfl, ⟨f, _, (ring_put hr hl hk).of_blk rfl⟩, ((((Only.refl b w).set k _).set 66 _).drewN 2).grown⟩
  · have e1 : fits s L = false := by simp [fits, hl]
    have e2 : s = (L.length : Int) := by omega
    rw [e1, putL, if_neg (by rw [e1]; simp)]
    exact (put_full w b s n hr.cs (e2 ▸ hr.cm) (by omega) hr.s1).mono fun e w' he => does_drew h' he

theorem push_ring (n : Int) (h : Ring w b s L) : Calls Try.prog 13 #[.pointer (some ⟨b, 0, none⟩), .int .i64 n] w (Does b s w (.bool (fits s L)) (pushL s L n)) := by
  have h' := h
  obtain ⟨f, xs, hr⟩ := h
  have hf := hr.fit
  by_cases hl : (L.length : Int) < s
  · have e1 : fits s L = true := by simp [fits, hl]
    obtain ⟨k, hk, hk64, v, cv⟩ := hr.spot (s - 1) (by omega) (by omega)
    refine (push_room w b s f L.length n hr.cs hr.cf hr.cm v k hk cv (hr.free _) (hr.free _) (hr.free _) hr.f0 hr.f1 hr.s1 (by omega) hl).mono ?_
    rintro e w' ⟨rfl, rfl⟩
    rw [e1, pushL, if_pos e1]
    exact ⟨rfl, ⟨k, _, (ring_push hr hl hk).of_blk rfl⟩, (((((Only.refl b w).set 65 _).set k _).set 66 _).drewN 2).grown⟩
  · have e1 : fits s L = false := by simp [fits, hl]
    have e2 : s = (L.length : Int) := by omega
    rw [e1, pushL, if_neg (by rw [e1]; simp)]
    exact (push_full w b s n hr.cs (e2 ▸ hr.cm) (by omega) hr.s1).mono fun e w' he => does_drew h' he

theorem at_ring (i : Int) (h : Ring w b s L) : Calls Try.prog 18 #[.pointer (some ⟨b, 0, none⟩), .int .i64 i] w (Does b s w (.tuple #[.int .i64 (atV L i), .bool (inB L i)]) L) := by
  have h' := h
  obtain ⟨f, xs, hr⟩ := h
  by_cases h0 : 0 ≤ i
  · by_cases h1 : i < L.length
    · have e1 : inB L i = true := by simp [inB, h0, h1]
      obtain ⟨k, hk, ck⟩ := hr.at_ i.toNat (by omega)
      rw [Int.toNat_of_nonneg h0] at hk
      rw [atV, e1, if_pos rfl]
      exact (at_in w b s f L.length i hr.cs hr.cf hr.cm _ k hk ck hr.f0 hr.f1 hr.s1 hr.fit h0 h1).mono fun e w' he => does_drew h' he
    · have e1 : inB L i = false := by simp [inB, h1]
      rw [atV, e1, if_neg (by simp)]
      exact (at_hi w b L.length i hr.cm h0 (by omega)).mono fun e w' he => does_same h' he
  · have e1 : inB L i = false := by simp [inB, h0]
    rw [atV, e1, if_neg (by simp)]
    exact (at_neg w _ i (by omega)).mono fun e w' he => does_same h' he

theorem take_ring (h : Ring w b s L) : Calls Try.prog 10 #[.pointer (some ⟨b, 0, none⟩)] w (Does b s w (.tuple #[.int .i64 (headV L), .bool (some' L)]) L.tail) := by
  have h' := h
  obtain ⟨f, xs, hr⟩ := h
  cases L with
  | nil => exact (take_empty w b hr.cm).mono fun e w' he => does_same h' he
  | cons x r =>
    have hf := hr.fit
    have h0 := hr.f0
    have h1 := hr.f1
    obtain ⟨k, hk, ck⟩ := hr.at_ 0 (by simp)
    obtain ⟨k1, hk1, _, _, _⟩ := hr.spot 1 (by omega) (by simp at hf; omega)
    refine (take_some w b s f _ hr.cs hr.cf hr.cm x k k1 hk hk1 ck (hr.free _) (hr.free _) h0 h1 hr.s1 hf (by simp)).mono ?_
    rintro e w' ⟨rfl, rfl⟩
    have := ring_drop hr 1 (by simp) hk1
    exact ⟨rfl, ⟨k1, _, this.of_blk rfl⟩, ((((Only.refl b w).set 65 _).set 66 _).drewN 1).grown⟩

theorem last_ring (h : Ring w b s L) : Calls Try.prog 14 #[.pointer (some ⟨b, 0, none⟩)] w (Does b s w (.tuple #[.int .i64 (lastV L), .bool (some' L)]) L.dropLast) := by
  have h' := h
  obtain ⟨f, xs, hr⟩ := h
  cases hL : L with
  | nil => subst hL; exact (last_empty w b hr.cm).mono fun e w' he => does_same h' he
  | cons x r =>
    rw [← hL]
    have hl : 0 < L.length := by rw [hL]; simp
    have hf := hr.fit
    obtain ⟨k, hk, ck⟩ := hr.at_ (L.length - 1) (by omega)
    have e1 : ((L.length - 1 : Nat) : Int) = (L.length : Int) - 1 := by omega
    rw [e1] at hk
    have e2 : L.getD (L.length - 1) 0 = lastV L := by
      rw [lastV, List.getLastD_eq_getLast?, List.getLast?_eq_getElem?, List.getD_eq_getElem?_getD]
    rw [e2] at ck
    have e3 : some' L = true := by rw [hL]; rfl
    rw [e3]
    refine (last_some w b s f _ hr.cs hr.cf hr.cm _ k hk ck (hr.free _) hr.f0 hr.f1 hr.s1 hf (by omega)).mono ?_
    rintro e w' ⟨rfl, rfl⟩
    exact ⟨rfl, ⟨f, _, (ring_last hr hl).of_blk rfl⟩, (((Only.refl b w).set 66 _).drewN 1).grown⟩

theorem drop_ring (n : Int) (h : Ring w b s L) : Calls Try.prog 24 #[.pointer (some ⟨b, 0, none⟩), .int .i64 n] w (Does b s w (.int .i64 (dropN L n)) (L.drop (dropN L n).toNat)) := by
  have h' := h
  obtain ⟨f, xs, hr⟩ := h
  have hf := hr.fit
  by_cases hd : 0 < dropN L n
  · have hdl : (dropN L n).toNat ≤ L.length := by unfold dropN at *; omega
    obtain ⟨k, hk, _, _, _⟩ := hr.spot (dropN L n) (by omega) (by omega)
    refine (drop_some w b s f _ n (dropN L n) hr.cs hr.cf hr.cm k hk (hr.free _) (hr.free _) hr.f0 hr.f1 hr.s1 hf (by unfold dropN at *; omega) hd).mono ?_
    rintro e w' ⟨rfl, rfl⟩
    have := ring_drop hr (dropN L n).toNat hdl (k := k) (by rw [Int.toNat_of_nonneg (by omega)]; exact hk)
    rw [Int.toNat_of_nonneg (by omega)] at this
    exact ⟨rfl, ⟨k, _, this⟩, (((Only.refl b w).set 65 _).set 66 _).grown⟩
  · have e : dropN L n = 0 := by unfold dropN at *; omega
    rw [e]
    exact (drop_none w b _ n hr.cm (by omega) (by unfold dropN at *; omega)).mono fun e w' he => does_same h' he

theorem find_ring (n : Int) (h : Ring w b s L) : Calls Try.prog 22 #[.pointer (some ⟨b, 0, none⟩), .int .i64 n] w fun e w' => e = .returned (.int .i64 (fnd L n)) ∧ Ext w w' := by
  obtain ⟨f, xs, hr⟩ := h
  exact (find_some w b s f n L hr.cs hr.cf hr.cm (Lib.hid fun i hi => hr.at_ i hi) hr.f0 hr.f1 hr.s1 hr.fit).mono fun e w' ⟨he, d, hd⟩ => ⟨he, by rw [hd]; exact Ext.drewN w d⟩

theorem all_ring (h : Ring w b s L) : Calls Try.prog 21 #[.pointer (some ⟨b, 0, none⟩)] w fun e w' => ∃ v, e = .returned v ∧ w'.ownsRow w.heap.size 3 1 v L.length (L.map (Value.int .i64)) ∧ Ext w w' := by
  have hl := h.lt
  obtain ⟨f, xs, hr⟩ := h
  exact all_some w b s f L hl hr.cs hr.cf hr.cm (Lib.hid fun i hi => hr.at_ i hi) hr.f0 hr.f1 hr.s1 hr.fit

theorem new_ring (n : Int) (h : 1 ≤ n) (h2 : n ≤ 64) : Calls Try.prog 8 #[.int .i64 n] w fun e w' => e = .returned (.tuple #[.pointer (some ⟨w.heap.size, 0, none⟩), .int .i64 0]) ∧ Ring w' w.heap.size n [] ∧ Ext w w' := by
  refine (new_good w n h h2).mono ?_
  rintro e w' ⟨rfl, rfl⟩
  refine ⟨rfl, ⟨0, List.replicate 64 0, ⟨by simp, ⟨51, ?_⟩, by omega, by omega, h2, by simp; omega, by simp⟩⟩, Ext.alloc _ _⟩
  show (w.heap.push _)[w.heap.size]? = _
  simp [ring0]

theorem clear_ring (h : Ring w b s L) : Calls Try.prog 26 #[.pointer (some ⟨b, 0, none⟩)] w (Does b s w (.tuple #[]) []) := by
  obtain ⟨f, xs, hr⟩ := h
  obtain ⟨T, hb⟩ := hr.blk
  have key : ∀ (n o : Nat) (w1 : World) (ys : List Int) (m : Int), ys.length = 64 → o + n = 64 → w1.heap[b]? = some (.cells (ringCells ys s f m).toArray T (0, 0)) →
      ∃ zs : List Int, zs.length = 64 ∧ (w1.setCells b o (List.replicate n (.int .i64 0))).heap[b]? = some (.cells (ringCells zs s f m).toArray T (0, 0)) ∧ Only b w1 (w1.setCells b o (List.replicate n (.int .i64 0))) := by
    intro n
    induction n with
    | zero => intro o w1 ys m hy ho hh; exact ⟨ys, hy, hh, Only.refl b w1⟩
    | succ n ih =>
      intro o w1 ys m hy ho hh
      have h1 := blk_set hh o (.int .i64 0)
      rw [set_lo _ _ _ _ _ hy o (by omega)] at h1
      obtain ⟨zs, hz, h2, h3⟩ := ih (o + 1) _ _ m (by simp [hy]) (by omega) h1
      exact ⟨zs, hz, h2, ((Only.refl b w1).set o _).trans h3⟩
  obtain ⟨zs, hz, h2, h3⟩ := key 64 0 w xs L.length hr.len rfl hb
  have hn : ringCells zs s f L.length ≠ [] := by simp [ringCells]
  refine (clear_some w b (fun j hj => by rw [Nat.zero_add, hr.cell j hj]; rfl) (fun j hj => hr.free _) _ rfl ?_ ?_ ?_ ?_).mono ?_
  · rw [cell_of_blk h2]; simp [ringCells, hz]
  · rw [cell_of_blk h2]; simp [ringCells, hz]
  · exact free_of_blk h2 _
  · exact free_of_blk h2 _
  rintro e w' ⟨rfl, rfl⟩
  refine ⟨rfl, ⟨0, zs, ⟨hz, ⟨T, ?_⟩, by omega, by have := hr.f0; have := hr.f1; omega, hr.s1, by have := hr.fit; simp; omega, by simp⟩⟩, ((h3.set 65 _).set 66 _).grown⟩
  rw [blk_set (blk_set h2 65 _) 66, set_64 _ _ _ _ _ hz, set_66 _ _ _ _ _ hz]
  rfl

end Go.Proofs.Ytdkblgbmbjagfaa
