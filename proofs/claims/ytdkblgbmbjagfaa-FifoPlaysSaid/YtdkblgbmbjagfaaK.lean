/- The document's ring, a value: what each of its methods answers. -/
import Derived.Test.YtdkblgbmbjagfaaJ
namespace Go.Proofs.Ytdkblgbmbjagfaa
open Go.RowKit

/-- A slice value that reads as a list of numbers: nil, or it leads to their cells. -/
def IntsV (w : World) (v : Value) (l : List Int) : Prop :=
  l.length ≤ 1000000 ∧ ((v = .slice none 0 0 ∧ l = []) ∨ ∃ g o c, v = .slice (some ⟨g, o, none⟩) l.length c ∧ (l.length ≤ c ∧ g < w.heap.size) ∧ ∀ j, j < l.length → w.cell? ⟨g, o + j, none⟩ = some (.int .i64 (l.getD j 0)))

theorem IntsV.ints {w : World} {v : Value} {l : List Int} (h : IntsV w v l) : Ints w v l := by
  obtain ⟨hm, ⟨rfl, rfl⟩ | ⟨g, o, c, rfl, _, hc⟩⟩ := h
  · exact ⟨by simp [maxLen], none, 0, rfl, .inl rfl⟩
  · exact ⟨by unfold maxLen; omega, _, c, rfl, .inr ⟨g, o, rfl, hc⟩⟩

theorem IntsV.ext {w w' : World} {v : Value} {l : List Int} (h : IntsV w v l) (hx : Ext w w') : IntsV w' v l := by
  obtain ⟨hm, h | ⟨g, o, c, hv, hl, hc⟩⟩ := h
  · exact ⟨hm, .inl h⟩
  · exact ⟨hm, .inr ⟨g, o, c, hv, ⟨hl.1, Nat.lt_of_lt_of_le hl.2 hx.size⟩, fun j hj => hx.cell_some (hc j hj)⟩⟩

theorem IntsV.of_own {w : World} {base : Nat} {v : Value} {l : List Int} (h : w.ownsRow base 3 1 v l.length (l.map (Value.int .i64))) (hm : l.length ≤ 1000000) : IntsV w v l := by
  have h' := h
  obtain ⟨_, h | ⟨g, cap, cur, hv, _, hb, hn, hm2, hs, ht⟩⟩ := h
  · obtain ⟨rfl, h0⟩ := h
    have : l = [] := List.eq_nil_of_length_eq_zero h0
    subst this
    exact ⟨by simp, .inl ⟨rfl, rfl⟩⟩
  · refine ⟨by assumption, .inr ⟨g, 0, cap, hv, ⟨hn, (Array.getElem?_eq_some_iff.1 hb).1⟩, fun j hj => ?_⟩⟩
    rw [Nat.zero_add, World.ownsRow.cellAt (hv ▸ h') j (by omega)]
    simp [hj, List.getD_eq_getElem?_getD]

/-- A value that is the document's ring. -/
def RefR (w : World) (v : Value) (n : Int) (L : List Int) : Prop := ∃ s, v = .agg #[.int .i64 n, s] ∧ IntsV w s L

theorem RefR.ext {w w' : World} {v : Value} {n : Int} {L : List Int} (h : RefR w v n L) (hx : Ext w w') : RefR w' v n L := let ⟨s, hv, hs⟩ := h; ⟨s, hv, hs.ext hx⟩

theorem Try.info38 : (Try.prog.info? 38).map (fun i => (i.zero, i.size, i.bytes)) = some (some (.agg #[.int .i64 0, .slice none 0 0]), 2, 32) := by kernel_rfl

set_option maxHeartbeats 400000 in
theorem rnew_bad (w : World) (n : Int) (h : n < 1 ∨ 64 < n) :
    Calls Try.prog 15 #[.int .i64 n] w fun e w' => e = .returned (.tuple #[.agg #[.int .i64 0, .slice none 0 0], .int .i64 8]) ∧ Ext w w' := by
  rcases h with h | h
  · have hd : decide (n < 1) = true := by simpa using h
    go_enter Try.func15, Try.ntmps15
    go_wp2
    exact bodyPost_ret (v := .tuple #[.agg #[.int .i64 0, .slice none 0 0], .int .i64 8]) (by simp [results, Try.results15, go_sem]) rfl ⟨rfl, (Below.refl _ _).alloc (Nat.le_refl _) _⟩
  · have hd : decide (n < 1) = false := by simp; omega
    go_enter Try.func15, Try.ntmps15
    go_wp2
    exact bodyPost_ret (v := .tuple #[.agg #[.int .i64 0, .slice none 0 0], .int .i64 8]) (by simp [results, Try.results15, go_sem]) rfl ⟨rfl, (Below.refl _ _).alloc (Nat.le_refl _) _⟩

set_option maxHeartbeats 400000 in
theorem rnew_good (w : World) (n : Int) (h : 1 ≤ n) (h2 : n ≤ 64) :
    Calls Try.prog 15 #[.int .i64 n] w fun e w' => e = .returned (.tuple #[.agg #[.int .i64 n, .slice none 0 0], .int .i64 0]) ∧ Ext w w' := by
  have hd : decide (n < 1) = false := by simp; omega
  go_enter Try.func15, Try.ntmps15
  go_wp2
  exact bodyPost_ret (v := .tuple #[.agg #[.int .i64 n, .slice none 0 0], .int .i64 0]) (by simp [results, Try.results15, go_sem]) rfl ⟨rfl, (Below.refl _ _).alloc (Nat.le_refl _) _⟩

set_option maxHeartbeats 400000 in
theorem rput_full (w : World) (n x : Int) (a : Option Addr) (m c : Nat) (h : n ≤ m) :
    Calls Try.prog 31 #[.agg #[.int .i64 n, .slice a m c], .int .i64 x] w fun e w' => e = .returned (.tuple #[.agg #[.int .i64 n, .slice a m c], .bool false]) ∧ Ext w w' := by
  go_enter Try.func31, Try.ntmps31
  go_wp2
  exact bodyPost_ret (v := .tuple #[.agg #[.int .i64 n, .slice a m c], .bool false]) (by simp [results, Try.results31, go_sem]) rfl ⟨rfl, (Ext.alloc _ _).al _⟩

set_option maxHeartbeats 400000 in
theorem rpush_full (w : World) (n x : Int) (a : Option Addr) (m c : Nat) (h : n ≤ m) :
    Calls Try.prog 27 #[.agg #[.int .i64 n, .slice a m c], .int .i64 x] w fun e w' => e = .returned (.tuple #[.agg #[.int .i64 n, .slice a m c], .bool false]) ∧ Ext w w' := by
  go_enter Try.func27, Try.ntmps27
  go_wp2
  exact bodyPost_ret (v := .tuple #[.agg #[.int .i64 n, .slice a m c], .bool false]) (by simp [results, Try.results27, go_sem]) rfl ⟨rfl, (Ext.alloc _ _).al _⟩

set_option maxHeartbeats 400000 in
theorem rtake_nil (w : World) (n : Int) (a : Option Addr) (c : Nat) :
    Calls Try.prog 28 #[.agg #[.int .i64 n, .slice a 0 c]] w fun e w' => e = .returned (.tuple #[.agg #[.int .i64 n, .slice a 0 c], .int .i64 0, .bool false]) ∧ Ext w w' := by
  go_enter Try.func28, Try.ntmps28
  go_wp2
  exact bodyPost_ret (v := .tuple #[.agg #[.int .i64 n, .slice a 0 c], .int .i64 0, .bool false]) (by simp [results, Try.results28, go_sem]) rfl ⟨rfl, (Ext.alloc _ _).al _⟩

set_option maxHeartbeats 400000 in
theorem rlast_nil (w : World) (n : Int) (a : Option Addr) (c : Nat) :
    Calls Try.prog 29 #[.agg #[.int .i64 n, .slice a 0 c]] w fun e w' => e = .returned (.tuple #[.agg #[.int .i64 n, .slice a 0 c], .int .i64 0, .bool false]) ∧ Ext w w' := by
  go_enter Try.func29, Try.ntmps29
  go_wp2
  exact bodyPost_ret (v := .tuple #[.agg #[.int .i64 n, .slice a 0 c], .int .i64 0, .bool false]) (by simp [results, Try.results29, go_sem]) rfl ⟨rfl, (Ext.alloc _ _).al _⟩


/-- What is left of a slice behind its first d places. -/
def Cut (g o m c d : Nat) (s : Value) : Prop := s = .slice (some ⟨g, o + d, none⟩) (m - d) (c - d) ∨ (m = d ∧ c = d ∧ s = .slice (some ⟨g, o, none⟩) 0 0)

def TakePost (n x : Int) (g o m c : Nat) (w : World) (e : Ending) (w' : World) : Prop := ∃ s, e = .returned (.tuple #[.agg #[.int .i64 n, s], .int .i64 x, .bool true]) ∧ Cut g o m c 1 s ∧ Ext w w'

set_option maxHeartbeats 400000 in
theorem rtake_some (w : World) (n x : Int) (g o m c : Nat) (hm : m ≤ 1000000) (hm1 : 1 ≤ m) (hc : m ≤ c) (hx : w.cell? ⟨g, o, none⟩ = some (.int .i64 x)) :
    Calls Try.prog 28 #[.agg #[.int .i64 n, .slice (some ⟨g, o, none⟩) m c]] w (TakePost n x g o m c w) := by
  have hg := lt_of_cell hx
  simp at hg
  have n1 : (1 : Int) ≤ m := by omega
  have n2 : (0 : Int) < m := by omega
  have n7 : 0 < m := by omega
  have n3 : ((m : Int) == 0) = false := by simp; omega
  by_cases h1 : c = 1
  case' pos =>
    have hm0 : m = 1 := by omega
    subst h1 hm0
    go_enter Try.func28, Try.ntmps28
    go_wp2
    refine region_held (some (w.heap.size + 1)) [(0, true), (1, true), (2, true), (3, true), (4, true), (5, true), (6, true), (7, true), (8, true), (9, true), (10, false)] [11, 12] (by kernel_rfl) (by kernel_rfl) (fun _ _ d _ _ h => by cases d <;> exact h) (fun W hW => ?_)
    simp only [pick, pickF, List.getElem?_cons_zero, List.getElem?_cons_succ]
    have xW : Ext w W := hW ▸ ((Ext.alloc _ _).al _).dr
    have b0 : W.cell? ⟨w.heap.size, 0, none⟩ = some (.int .i64 n) := by rw [hW]; go_simp
    have b1 : W.cell? ⟨w.heap.size, 1, none⟩ = some (Value.slice (some ⟨g, o, none⟩) 1 1) := by rw [hW]; go_simp
    have b2 : W.cell? ⟨w.heap.size + 1, 0, none⟩ = some (.int .i64 0) := by rw [hW]; go_simp
    have b3 : W.cell? ⟨w.heap.size + 1, 1, none⟩ = some (.slice none 0 0) := by rw [hW]; go_simp
    have f2 : W.frozen? ⟨w.heap.size + 1, 0, none⟩ = false := by rw [hW]; go_simp
    have f3 : W.frozen? ⟨w.heap.size + 1, 1, none⟩ = false := by rw [hW]; go_simp
    have sW : w.heap.size + 2 ≤ W.heap.size := by rw [hW]; simp
    have bx := xW.cell_some hx
    have q2 : ∀ w1, Gr (some (w.heap.size + 1)) W w1 → w1.cell? _ = _ := fun w1 h => h.cell_some bx (by simp; omega)
    clear hW
    have q0 : ∀ w1, Gr (some (w.heap.size + 1)) W w1 → w1.cell? _ = _ := fun w1 h => h.cell_some b0 (by simp)
    have q1 : ∀ w1, Gr (some (w.heap.size + 1)) W w1 → w1.cell? _ = _ := fun w1 h => h.cell_some b1 (by simp)
    have hgr := Gr.refl (some (w.heap.size + 1)) W
    iterate 10
      refine held_yes hgr _ rfl (fun w1 hw1 => by unfold Oper.quietAt; go_simp; rfl) ?_
      simp only [Act.put, List.setIfInBounds_toArray, List.set_cons_zero, List.set_cons_succ]
    refine held_step rfl (fun K hK => ?_)
    go_simp
    refine hK _ _ ((hgr.set _).set _) ?_
    clear hK K q0 q1 q2
    refine held_nil ?_
    go_wp2
    exact bodyPost_ret (v := .tuple #[.agg #[.int .i64 n, .slice (some ⟨g, o, none⟩) 0 0], .int .i64 x, .bool true]) (by simp [results, Try.results28, go_sem, b2, b3, f2, f3]) rfl ⟨_, rfl, .inr ⟨rfl, rfl, rfl⟩, (xW.set (by omega) _).set (by omega) _⟩
  case' neg =>
    go_enter Try.func28, Try.ntmps28
    go_wp2
    refine region_held (some (w.heap.size + 1)) [(0, true), (1, true), (2, true), (3, true), (4, true), (5, true), (6, true), (7, true), (8, true), (9, true), (10, false)] [11, 12] (by kernel_rfl) (by kernel_rfl) (fun _ _ d _ _ h => by cases d <;> exact h) (fun W hW => ?_)
    simp only [pick, pickF, List.getElem?_cons_zero, List.getElem?_cons_succ]
    have xW : Ext w W := hW ▸ ((Ext.alloc _ _).al _).dr
    have b0 : W.cell? ⟨w.heap.size, 0, none⟩ = some (.int .i64 n) := by rw [hW]; go_simp
    have b1 : W.cell? ⟨w.heap.size, 1, none⟩ = some (Value.slice (some ⟨g, o, none⟩) m c) := by rw [hW]; go_simp
    have b2 : W.cell? ⟨w.heap.size + 1, 0, none⟩ = some (.int .i64 0) := by rw [hW]; go_simp
    have b3 : W.cell? ⟨w.heap.size + 1, 1, none⟩ = some (.slice none 0 0) := by rw [hW]; go_simp
    have f2 : W.frozen? ⟨w.heap.size + 1, 0, none⟩ = false := by rw [hW]; go_simp
    have f3 : W.frozen? ⟨w.heap.size + 1, 1, none⟩ = false := by rw [hW]; go_simp
    have sW : w.heap.size + 2 ≤ W.heap.size := by rw [hW]; simp
    have bx := xW.cell_some hx
    have q2 : ∀ w1, Gr (some (w.heap.size + 1)) W w1 → w1.cell? _ = _ := fun w1 h => h.cell_some bx (by simp; omega)
    clear hW
    have q0 : ∀ w1, Gr (some (w.heap.size + 1)) W w1 → w1.cell? _ = _ := fun w1 h => h.cell_some b0 (by simp)
    have q1 : ∀ w1, Gr (some (w.heap.size + 1)) W w1 → w1.cell? _ = _ := fun w1 h => h.cell_some b1 (by simp)
    have hgr := Gr.refl (some (w.heap.size + 1)) W
    iterate 10
      refine held_yes hgr _ rfl (fun w1 hw1 => by unfold Oper.quietAt; go_simp; rfl) ?_
      simp only [Act.put, List.setIfInBounds_toArray, List.set_cons_zero, List.set_cons_succ]
    refine held_step rfl (fun K hK => ?_)
    go_simp
    refine hK _ _ ((hgr.set _).set _) ?_
    clear hK K q0 q1 q2
    refine held_nil ?_
    go_wp2
    exact bodyPost_ret (v := .tuple #[.agg #[.int .i64 n, .slice (some ⟨g, o + 1, none⟩) (m - 1) (c - 1)], .int .i64 x, .bool true]) (by simp [results, Try.results28, go_sem, b2, b3, f2, f3]) rfl ⟨_, rfl, .inl rfl, (xW.set (by omega) _).set (by omega) _⟩

set_option maxHeartbeats 400000 in
theorem rlast_some (w : World) (n x : Int) (g o m c : Nat) (hm : m + 1 ≤ 1000000) (hc : m + 1 ≤ c) (hx : w.cell? ⟨g, o + m, none⟩ = some (.int .i64 x)) :
    Calls Try.prog 29 #[.agg #[.int .i64 n, .slice (some ⟨g, o, none⟩) (m + 1) c]] w fun e w' => e = .returned (.tuple #[.agg #[.int .i64 n, .slice (some ⟨g, o, none⟩) m c], .int .i64 x, .bool true]) ∧ Ext w w' := by
  have hg := lt_of_cell hx
  simp at hg
  have n1 : (0 : Int) ≤ m := by omega
  have n2 : (m : Int) < (m : Int) + 1 := by omega
  have n3 : ((m : Int) + 1 == 0) = false := by simp; omega
  have n4 : (m : Int) ≤ c := by omega
  have n5 : IntKind.i64.wrap ((m : Int) + 1 - 1) = m := by rw [IntWalk.i64_in _ (by omega)]; omega
  have n6 : IntKind.i64.wrap (m : Int) = m := IntWalk.i64_in _ (by omega)
  have h0 : ¬ c = 0 := by omega
  go_enter Try.func29, Try.ntmps29
  go_wp2
  case' _ =>
    refine region_held (some (w.heap.size + 1)) [(0, true), (1, true), (2, true), (3, true), (4, true), (5, true), (6, true), (7, true), (8, true), (9, true), (10, true), (11, true), (12, true), (13, true), (14, false)] [15, 16] (by kernel_rfl) (by kernel_rfl) (fun _ _ d _ _ h => by cases d <;> exact h) (fun W hW => ?_)
    simp only [pick, pickF, List.getElem?_cons_zero, List.getElem?_cons_succ]
    have xW : Ext w W := hW ▸ ((Ext.alloc _ _).al _).dr
    have b0 : W.cell? ⟨w.heap.size, 0, none⟩ = some (.int .i64 n) := by rw [hW]; go_simp
    have b1 : W.cell? ⟨w.heap.size, 1, none⟩ = some (Value.slice (some ⟨g, o, none⟩) (m + 1) c) := by rw [hW]; go_simp
    have b2 : W.cell? ⟨w.heap.size + 1, 0, none⟩ = some (.int .i64 0) := by rw [hW]; go_simp
    have b3 : W.cell? ⟨w.heap.size + 1, 1, none⟩ = some (.slice none 0 0) := by rw [hW]; go_simp
    have f2 : W.frozen? ⟨w.heap.size + 1, 0, none⟩ = false := by rw [hW]; go_simp
    have f3 : W.frozen? ⟨w.heap.size + 1, 1, none⟩ = false := by rw [hW]; go_simp
    have sW : w.heap.size + 2 ≤ W.heap.size := by rw [hW]; simp
    have bx := xW.cell_some hx
    have q2 : ∀ w1, Gr (some (w.heap.size + 1)) W w1 → w1.cell? _ = _ := fun w1 h => h.cell_some bx (by simp; omega)
    clear hW
    have q0 : ∀ w1, Gr (some (w.heap.size + 1)) W w1 → w1.cell? _ = _ := fun w1 h => h.cell_some b0 (by simp)
    have q1 : ∀ w1, Gr (some (w.heap.size + 1)) W w1 → w1.cell? _ = _ := fun w1 h => h.cell_some b1 (by simp)
    have hgr := Gr.refl (some (w.heap.size + 1)) W
    iterate 14
      refine held_yes hgr _ rfl (fun w1 hw1 => by unfold Oper.quietAt; go_simp; rfl) ?_
      simp only [Act.put, List.setIfInBounds_toArray, List.set_cons_zero, List.set_cons_succ]
    refine held_step rfl (fun K hK => ?_)
    go_simp
    refine hK _ _ ((hgr.set _).set _) ?_
    clear hK K q0 q1 q2
    refine held_nil ?_
    go_wp2
    exact bodyPost_ret (v := .tuple #[.agg #[.int .i64 n, .slice (some ⟨g, o, none⟩) m c], .int .i64 x, .bool true]) (by simp [results, Try.results29, go_sem, b2, b3, f2, f3]) rfl ⟨rfl, (xW.set (by omega) _).set (by omega) _⟩

end Go.Proofs.Ytdkblgbmbjagfaa
