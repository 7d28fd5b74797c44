/- Slices of numbers in memory; whether two are the same. -/
import Derived.Test.YtdkblgbmbjagfaaF
namespace Go.Proofs.Ytdkblgbmbjagfaa
open Go.RowKit

/-- The slice value v reads as the list l. -/
def Ints (w : World) (v : Value) (l : List Int) : Prop :=
  l.length ≤ maxLen ∧ ∃ a cap, v = .slice a l.length cap ∧ (l = [] ∨ ∃ g o, a = some ⟨g, o, none⟩ ∧ ∀ j, j < l.length → w.cell? ⟨g, o + j, none⟩ = some (.int .i64 (l.getD j 0)))

theorem lt_of_cell {w : World} {a : Addr} {v : Value} (h : w.cell? a = some v) : a.block < w.heap.size := World.block_lt_of_cell? w a h

theorem Ext.cell_some {w w' : World} (h : Ext w w') {a : Addr} {v : Value} (hc : w.cell? a = some v) : w'.cell? a = some v := (h.cell (lt_of_cell hc)).trans hc

theorem Ints.ext {w w' : World} {v : Value} {l : List Int} (h : Ints w v l) (hx : Ext w w') : Ints w' v l := by
  obtain ⟨hm, a, cap, hv, h⟩ := h
  refine ⟨hm, a, cap, hv, h.imp id ?_⟩
  rintro ⟨g, o, ha, hc⟩
  exact ⟨g, o, ha, fun j hj => hx.cell_some (hc j hj)⟩

theorem Ints.grown {w w' : World} {v : Value} {l : List Int} (h : Ints w v l) {b : Nat} (hx : w.grownBy w' (some b)) (hb : ∀ g o cap, v = .slice (some ⟨g, o, none⟩) l.length cap → g ≠ b) : Ints w' v l := by
  obtain ⟨hm, a, cap, hv, h⟩ := h
  refine ⟨hm, a, cap, hv, h.imp id ?_⟩
  rintro ⟨g, o, ha, hc⟩
  have := hb g o cap (ha ▸ hv)
  refine ⟨g, o, ha, fun j hj => ?_⟩
  rw [← hc j hj]
  exact World.cell?_of_block (w := w) (hx.block g (lt_of_cell (hc j hj)) (fun e => this (Option.some.inj e)))

theorem ints_own {w : World} {base : Nat} {v : Value} {l : List Int} (h : w.ownsRow base 3 1 v l.length (l.map (Value.int .i64))) : Ints w v l := by
  obtain ⟨_, h | ⟨g, cap, cur, hv, _, hb, hn, hm, hs, ht⟩⟩ := h
  · obtain ⟨rfl, h0⟩ := h
    have : l = [] := List.eq_nil_of_length_eq_zero h0
    subst this
    exact ⟨by simp [maxLen], none, 0, rfl, .inl rfl⟩
  · refine ⟨by omega, _, cap, hv, .inr ⟨g, 0, rfl, fun j hj => ?_⟩⟩
    have e : (cur.toList.take (l.length * 1))[j]? = some (.int .i64 (l.getD j 0)) := by
      rw [ht]; simp [hj, List.getD_eq_getElem?_getD]
    rw [List.getElem?_take_of_lt (by omega)] at e
    simp only [World.cell?, hb]
    simpa using e

set_option maxHeartbeats 400000 in
theorem same_len (w : World) (p q : Option Addr) (n m c d : Nat) (h : n ≠ m) :
    Calls Try.prog 20 #[.slice p n c, .slice q m d] w fun e w' => e = .returned (.bool false) ∧ w' = w := by
  have hd : ((n : Int) == (m : Int)) = false := by simp; omega
  have hd2 : ((n : Int) != (m : Int)) = true := by simp; omega
  go_enter Try.func20, Try.ntmps20
  go_wp2
  go_ret
  exact ⟨rfl, rfl⟩

set_option maxHeartbeats 400000 in
theorem same_nil (w : World) (p q : Option Addr) (c d : Nat) :
    Calls Try.prog 20 #[.slice p 0 c, .slice q 0 d] w fun e w' => e = .returned (.bool true) ∧ w' = w := by
  go_enter Try.func20, Try.ntmps20
  go_wp2
  go_loop [5] (fun i => i = .int .i64 0) (fun _ => 0)
  case atStart => rfl
  case round =>
    subst hrel
    go_wp2
    go_ret
    exact ⟨rfl, rfl⟩

set_option maxHeartbeats 400000 in
theorem same_some (w : World) (g o g' o' c d : Nat) (A B : List Int) (hl : A.length = B.length) (hm : A.length ≤ maxLen)
    (hA : Hid (∀ j, j < A.length → w.cell? ⟨g, o + j, none⟩ = some (.int .i64 (A.getD j 0)))) (hB : Hid (∀ j, j < B.length → w.cell? ⟨g', o' + j, none⟩ = some (.int .i64 (B.getD j 0)))) :
    Calls Try.prog 20 #[.slice (some ⟨g, o, none⟩) A.length c, .slice (some ⟨g', o', none⟩) A.length d] w fun e w' => e = .returned (.bool (A == B)) ∧ ∃ n, w' = w.drewN n := by
  unfold maxLen at hm
  have HL := Lib.hid hl
  clear hl
  generalize hn : A.length = n at *
  have HN := Lib.hid hn
  clear hn
  go_enter Try.func20, Try.ntmps20
  go_wp2
  go_loopw [5] (fun i wr => ∃ k : Nat, k ≤ n ∧ i = .int .i64 k ∧ (∃ d, wr = w.drewN d) ∧ Hid (∀ j, j < k → A.getD j 0 = B.getD j 0)) (fun i _ => n - (intOf i).toNat)
  case atStart => exact ⟨0, by omega, rfl, ⟨0, rfl⟩, Lib.hid (fun j hj => absurd hj (by omega))⟩
  case round =>
    obtain ⟨k, hk, rfl, ⟨dd, rfl⟩, hsame⟩ := hrel
    by_cases hlt : k < n
    · have ca := hA.out k (by omega)
      have cb := hB.out k (by have := HL.out; have := HN.out; omega)
      have hlt2 : (k : Int) < n := by omega
      have hk0 : (0 : Int) ≤ k := by omega
      generalize hx : A.getD k 0 = x at ca
      generalize hy : B.getD k 0 = y at cb
      have HX := Lib.hid hx
      have HY := Lib.hid hy
      clear hx hy
      by_cases he : x = y
      · have hb : (x != y) = false := by simp [he]
        have he := Lib.hid he
        go_wp2
        refine region_still (by kernel_rfl) (by kernel_rfl) ?_
        repeat still_step
        refine wpStill_nil ?_
        go_wp2
        go_roundw
        case rel => exact ⟨k + 1, by omega, by go_num, ⟨dd + 1, rfl⟩, Lib.hid (fun j hj => by
          by_cases e : j = k
          · subst e; rw [HX.out, HY.out]; exact he.out
          · exact hsame.out j (by omega))⟩
        case measure => simp [intOf]; omega
      · have hb : (x != y) = true := by simp [he]
        have he := Lib.hid he
        go_wp2
        refine region_still (by kernel_rfl) (by kernel_rfl) ?_
        repeat still_step
        refine wpStill_nil ?_
        go_wp2
        go_ret
        refine ⟨?_, dd + 1, rfl⟩
        have : (A == B) = false := by
          simp
          intro hab
          exact he.out (by rw [← HX.out, ← HY.out, hab])
        rw [this]; rfl
    · go_wp2
      go_ret
      refine ⟨?_, dd, rfl⟩
      have : (A == B) = true := by
        simp
        apply List.ext_getElem (HN.out.trans HL.out)
        intro i h1 h2
        have := hsame.out i (by have := HN.out; omega)
        simpa [List.getD_eq_getElem?_getD, h1, h2] using this
      rw [this]; rfl

theorem same_ints (w : World) (v u : Value) (A B : List Int) (hA : Ints w v A) (hB : Ints w u B) :
    Calls Try.prog 20 #[v, u] w fun e w' => e = .returned (.bool (A == B)) ∧ Ext w w' := by
  obtain ⟨hm, a, cap, rfl, hA⟩ := hA
  obtain ⟨hm', a', cap', rfl, hB⟩ := hB
  by_cases hl : A.length = B.length
  · rcases hA with rfl | ⟨g, o, rfl, hA⟩
    · have : B = [] := List.eq_nil_of_length_eq_zero hl.symm
      subst this
      exact (same_nil w a a' cap cap').mono fun e w' ⟨he, hw⟩ => ⟨he, hw ▸ Ext.refl _⟩
    · rcases hB with rfl | ⟨g', o', rfl, hB⟩
      · have : A = [] := List.eq_nil_of_length_eq_zero hl
        subst this
        exact (same_nil w _ a' cap cap').mono fun e w' ⟨he, hw⟩ => ⟨he, hw ▸ Ext.refl _⟩
      · have := same_some w g o g' o' cap cap' A B hl hm (Lib.hid hA) (Lib.hid hB)
        rw [hl] at this
        rw [hl]
        exact this.mono fun e w' ⟨he, n, hw⟩ => ⟨he, hw ▸ Ext.drewN _ _⟩
  · have : (A == B) = false := by simp; intro h; exact hl (by rw [h])
    rw [this]
    exact (same_len w a a' _ _ cap cap' hl).mono fun e w' ⟨he, hw⟩ => ⟨he, hw ▸ Ext.refl _⟩

end Go.Proofs.Ytdkblgbmbjagfaa
