/- The document's ring, a value: what is pushed, dropped, found. -/
import Derived.Test.YtdkblgbmbjagfaaL
namespace Go.Proofs.Ytdkblgbmbjagfaa
open Go.RowKit

set_option maxRecDepth 100000 in
set_option maxHeartbeats 1000000 in
theorem rpush_room (w : World) (n x : Int) (a : Option Addr) (m c : Nat) (L : List Int) (hL : m = L.length) (hi : Hid (IntsV w (.slice a m c) L)) (hm : m ≤ 900000) (h : (m : Int) < n) :
    Calls Try.prog 27 #[.agg #[.int .i64 n, .slice a m c], .int .i64 x] w (PutPost n (x :: L) w) := by
  have HL := Lib.hid hL
  clear hL
  go_enter Try.func27, Try.ntmps27
  go_wp2
  case' _ =>
    refine region_held (some (w.heap.size + 1)) [(0, true), (1, true), (2, true), (4, true), (5, true), (3, false), (6, false), (7, true), (8, false)] [9] (by kernel_rfl) (by kernel_rfl) (fun _ _ d _ _ h => by cases d <;> exact h) (fun W hW => ?_)
    simp only [pick, pickF, List.getElem?_cons_zero, List.getElem?_cons_succ]
    have xW : Ext w W := hW ▸ ((Ext.alloc _ _).al _).dr
    have b0 : W.cell? ⟨w.heap.size, 0, none⟩ = some (.int .i64 n) := by rw [hW]; go_simp
    have b1 : W.cell? ⟨w.heap.size, 1, none⟩ = some (Value.slice a m c) := by rw [hW]; go_simp
    have b2 : W.cell? ⟨w.heap.size + 1, 0, none⟩ = some (.int .i64 0) := by rw [hW]; go_simp
    have b3 : W.cell? ⟨w.heap.size + 1, 1, none⟩ = some (.slice none 0 0) := by rw [hW]; go_simp
    have f2 : W.frozen? ⟨w.heap.size + 1, 0, none⟩ = false := by rw [hW]; go_simp
    have f3 : W.frozen? ⟨w.heap.size + 1, 1, none⟩ = false := by rw [hW]; go_simp
    have sW : w.heap.size + 2 ≤ W.heap.size := by rw [hW]; simp
    clear hW
    have q0 : ∀ w1, Gr (some (w.heap.size + 1)) W w1 → w1.cell? _ = _ := fun w1 h => h.cell_some b0 (by simp)
    have q1 : ∀ w1, Gr (some (w.heap.size + 1)) W w1 → w1.cell? _ = _ := fun w1 h => h.cell_some b1 (by simp)
    have hgr := Gr.refl (some (w.heap.size + 1)) W
    iterate 5
      refine held_yes hgr _ rfl (fun w1 hw1 => by unfold Oper.quietAt; go_simp; rfl) ?_
      simp only [Act.put, List.setIfInBounds_toArray, List.set_cons_zero, List.set_cons_succ]
    clear q0 q1
    refine held_step rfl (fun K hK => ?_)
    go_simp
    have x6 := Ext.alloc W (.cells #[.int .i64 x] 3)
    have o6 : (W.alloc (.cells #[.int .i64 x] 3)).ownsRow W.heap.size 3 1 (.slice (some ⟨W.heap.size, 0, none⟩) 1 1) [x].length ([x].map (Value.int .i64)) :=
      World.ownsRow_lit W #[.int .i64 x] 1 (Nat.le_refl _) (by decide) rfl
    refine hK _ _ (x6.gr _) ?_
    clear hK K
    refine held_step rfl (fun K hK => ?_)
    refine wp_append_ints (.tmp 16) (.tmp 18) rfl W.heap.size _ [x] rfl o6 _ L rfl (hi.out.ext (xW.trans x6)) (by simp) x6.size ?_
    intro v8 w8 o8 g8
    have x8 : Ext W w8 := Below.grown x6 g8 x6.size (fun k hk => by cases hk; exact Nat.le_refl _)
    refine hK _ _ (x8.gr _) ?_
    clear hK K g8 o6
    rw [show [x] ++ L = x :: L from rfl] at o8
    have i8 := IntsV.of_own o8 (by have := HL.out; simp; omega)
    have s8 := own_slice o8
    obtain ⟨a8, c8, rfl, s8⟩ := s8
    simp only [Act.put, List.setIfInBounds_toArray, List.set_cons_zero, List.set_cons_succ]
    refine held_yes (x8.gr _) _ rfl (fun w1 hw1 => by unfold Oper.quietAt; go_simp; rfl) ?_
    simp only [Act.put, List.setIfInBounds_toArray, List.set_cons_zero, List.set_cons_succ]
    have b2 := x8.cell_some b2
    have b3 := x8.cell_some b3
    have f2 : w8.frozen? ⟨w.heap.size + 1, 0, none⟩ = false := (x8.frozen (by show w.heap.size + 1 < _; omega)).trans f2
    have f3 : w8.frozen? ⟨w.heap.size + 1, 1, none⟩ = false := (x8.frozen (by show w.heap.size + 1 < _; omega)).trans f3
    have lt8 : ∀ k, (Value.slice a8 (x :: L).length c8).ownBlock = some k → W.heap.size ≤ k := fun k hk => (o8.lt k hk).1
    clear o8 s8
    refine held_step rfl (fun K hK => ?_)
    go_simp
    refine hK _ _ (((x8.gr _).set _).set _) ?_
    clear hK K
    refine held_nil ?_
    go_wp2
    have e : (x :: L).length = L.length + 1 := by simp
    rw [e] at i8 lt8
    have hne : ∀ g o c l, Value.slice a8 (L.length + 1) c8 = .slice (some ⟨g, o, none⟩) l c → g ≠ w.heap.size + 1 := fun g o c l he => by
      have := lt8 g (by rw [he]; rfl); omega
    exact bodyPost_ret (v := .tuple #[.agg #[.int .i64 n, .slice a8 (L.length + 1) c8], .bool true]) (by simp [results, Try.results27, go_sem, b2, b3, f2, f3]) rfl
      ⟨_, rfl, (i8.other hne).other hne, fun g o c l he => by (have := lt8 g (by rw [he]; rfl)); omega, ((xW.trans x8).set (by omega) _).set (by omega) _⟩

def DropPost (n d : Int) (s : Value) (w : World) (e : Ending) (w' : World) : Prop := e = .returned (.tuple #[.agg #[.int .i64 n, s], .int .i64 d]) ∧ Ext w w'

set_option maxHeartbeats 1000000 in
theorem rdrop_nil (w : World) (n x : Int) :
    Calls Try.prog 30 #[.agg #[.int .i64 n, .slice none 0 0], .int .i64 x] w (DropPost n 0 (.slice none 0 0) w) := by
  by_cases hx : x < 0
  all_goals
    go_enter Try.func30, Try.ntmps30
    go_wp2
  all_goals
    refine region_held (some (w.heap.size + 1)) [(0, true), (1, true), (2, true), (3, true), (4, true), (5, true), (6, true), (7, true), (8, false)] [9] (by kernel_rfl) (by kernel_rfl) (fun _ _ d _ _ h => by cases d <;> exact h) (fun W hW => ?_)
    simp only [pick, pickF, List.getElem?_cons_zero, List.getElem?_cons_succ]
    have xW : Ext w W := hW ▸ ((Ext.alloc _ _).al _).dr
    have b0 : W.cell? ⟨w.heap.size, 0, none⟩ = some (.int .i64 n) := by rw [hW]; go_simp
    have b1 : W.cell? ⟨w.heap.size, 1, none⟩ = some (Value.slice none 0 0) := by rw [hW]; go_simp
    have b2 : W.cell? ⟨w.heap.size + 1, 0, none⟩ = some (.int .i64 0) := by rw [hW]; go_simp
    have b3 : W.cell? ⟨w.heap.size + 1, 1, none⟩ = some (.slice none 0 0) := by rw [hW]; go_simp
    have f2 : W.frozen? ⟨w.heap.size + 1, 0, none⟩ = false := by rw [hW]; go_simp
    have f3 : W.frozen? ⟨w.heap.size + 1, 1, none⟩ = false := by rw [hW]; go_simp
    have sW : w.heap.size + 2 ≤ W.heap.size := by rw [hW]; simp
    clear hW
    have q0 : ∀ w1, Gr (some (w.heap.size + 1)) W w1 → w1.cell? _ = _ := fun w1 h => h.cell_some b0 (by simp)
    have q1 : ∀ w1, Gr (some (w.heap.size + 1)) W w1 → w1.cell? _ = _ := fun w1 h => h.cell_some b1 (by simp)
    have hgr := Gr.refl (some (w.heap.size + 1)) W
    iterate 8
      refine held_yes hgr _ rfl (fun w1 hw1 => by unfold Oper.quietAt; go_simp; rfl) ?_
      simp only [Act.put, List.setIfInBounds_toArray, List.set_cons_zero, List.set_cons_succ]
    refine held_step rfl (fun K hK => ?_)
    go_simp
    refine hK _ _ ((hgr.set _).set _) ?_
    clear hK K q0 q1
    refine held_nil ?_
    go_wp2
    exact bodyPost_ret (v := .tuple #[.agg #[.int .i64 n, .slice none 0 0], .int .i64 0]) (by simp [results, Try.results30, go_sem, b2, b3, f2, f3]) rfl
      ⟨rfl, (xW.set (by omega) _).set (by omega) _⟩

set_option maxHeartbeats 1000000 in
theorem rdrop_zero (w : World) (n x : Int) (g o m c : Nat) (hm : m ≤ 1000000) (hc : m ≤ c) (hx : x ≤ 0) :
    Calls Try.prog 30 #[.agg #[.int .i64 n, .slice (some ⟨g, o, none⟩) m c], .int .i64 x] w (DropPost n 0 (.slice (some ⟨g, o, none⟩) m c) w) := by
  have n0 : (0 : Int) ≤ (m : Nat) := by omega
  have n00 : (0 : Int) ≤ c := by omega
  go_enter Try.func30, Try.ntmps30
  go_wp2
  all_goals
    refine region_held (some (w.heap.size + 1)) [(0, true), (1, true), (2, true), (3, true), (4, true), (5, true), (6, true), (7, true), (8, false)] [9] (by kernel_rfl) (by kernel_rfl) (fun _ _ d _ _ h => by cases d <;> exact h) (fun W hW => ?_)
    simp only [pick, pickF, List.getElem?_cons_zero, List.getElem?_cons_succ]
    have xW : Ext w W := hW ▸ ((Ext.alloc _ _).al _).dr
    have b0 : W.cell? ⟨w.heap.size, 0, none⟩ = some (.int .i64 n) := by rw [hW]; go_simp
    have b1 : W.cell? ⟨w.heap.size, 1, none⟩ = some (Value.slice (some ⟨g, o, none⟩) m c) := by rw [hW]; go_simp
    have b2 : W.cell? ⟨w.heap.size + 1, 0, none⟩ = some (.int .i64 0) := by rw [hW]; go_simp
    have b3 : W.cell? ⟨w.heap.size + 1, 1, none⟩ = some (.slice none 0 0) := by rw [hW]; go_simp
    have f2 : W.frozen? ⟨w.heap.size + 1, 0, none⟩ = false := by rw [hW]; go_simp
    have f3 : W.frozen? ⟨w.heap.size + 1, 1, none⟩ = false := by rw [hW]; go_simp
    have sW : w.heap.size + 2 ≤ W.heap.size := by rw [hW]; simp
    clear hW
    have q0 : ∀ w1, Gr (some (w.heap.size + 1)) W w1 → w1.cell? _ = _ := fun w1 h => h.cell_some b0 (by simp)
    have q1 : ∀ w1, Gr (some (w.heap.size + 1)) W w1 → w1.cell? _ = _ := fun w1 h => h.cell_some b1 (by simp)
    have hgr := Gr.refl (some (w.heap.size + 1)) W
    iterate 8
      refine held_yes hgr _ rfl (fun w1 hw1 => by unfold Oper.quietAt; go_simp; rfl) ?_
      simp only [Act.put, List.setIfInBounds_toArray, List.set_cons_zero, List.set_cons_succ]
    refine held_step rfl (fun K hK => ?_)
    go_simp
    refine hK _ _ ((hgr.set _).set _) ?_
    clear hK K q0 q1
    refine held_nil ?_
    go_wp2
    exact bodyPost_ret (v := .tuple #[.agg #[.int .i64 n, .slice (some ⟨g, o, none⟩) m c], .int .i64 0]) (by simp [results, Try.results30, go_sem, b2, b3, f2, f3]) rfl
      ⟨rfl, (xW.set (by omega) _).set (by omega) _⟩

set_option maxHeartbeats 1000000 in
theorem rdrop_mid (w : World) (n : Int) (g o m c : Nat) (hm : m ≤ 1000000) (hc : m ≤ c) (d : Nat) (hd : 0 < d) (hdm : d ≤ m) (hcd : c ≠ d) :
    Calls Try.prog 30 #[.agg #[.int .i64 n, .slice (some ⟨g, o, none⟩) m c], .int .i64 d] w (DropPost n d (.slice (some ⟨g, o + d, none⟩) (m - d) (c - d)) w) := by
  have n1 : (0 : Int) ≤ d := by omega
  have n2 : (d : Int) ≤ m := by omega
  have n4 : ¬ c = d := hcd
  have n0 : (0 : Int) ≤ (m : Nat) := by omega
  have n00 : (0 : Int) ≤ c := by omega
  go_enter Try.func30, Try.ntmps30
  go_wp2
  all_goals
    refine region_held (some (w.heap.size + 1)) [(0, true), (1, true), (2, true), (3, true), (4, true), (5, true), (6, true), (7, true), (8, false)] [9] (by kernel_rfl) (by kernel_rfl) (fun _ _ d _ _ h => by cases d <;> exact h) (fun W hW => ?_)
    simp only [pick, pickF, List.getElem?_cons_zero, List.getElem?_cons_succ]
    have xW : Ext w W := hW ▸ ((Ext.alloc _ _).al _).dr
    have b0 : W.cell? ⟨w.heap.size, 0, none⟩ = some (.int .i64 n) := by rw [hW]; go_simp
    have b1 : W.cell? ⟨w.heap.size, 1, none⟩ = some (Value.slice (some ⟨g, o, none⟩) m c) := by rw [hW]; go_simp
    have b2 : W.cell? ⟨w.heap.size + 1, 0, none⟩ = some (.int .i64 0) := by rw [hW]; go_simp
    have b3 : W.cell? ⟨w.heap.size + 1, 1, none⟩ = some (.slice none 0 0) := by rw [hW]; go_simp
    have f2 : W.frozen? ⟨w.heap.size + 1, 0, none⟩ = false := by rw [hW]; go_simp
    have f3 : W.frozen? ⟨w.heap.size + 1, 1, none⟩ = false := by rw [hW]; go_simp
    have sW : w.heap.size + 2 ≤ W.heap.size := by rw [hW]; simp
    clear hW
    have q0 : ∀ w1, Gr (some (w.heap.size + 1)) W w1 → w1.cell? _ = _ := fun w1 h => h.cell_some b0 (by simp)
    have q1 : ∀ w1, Gr (some (w.heap.size + 1)) W w1 → w1.cell? _ = _ := fun w1 h => h.cell_some b1 (by simp)
    have hgr := Gr.refl (some (w.heap.size + 1)) W
    iterate 8
      refine held_yes hgr _ rfl (fun w1 hw1 => by unfold Oper.quietAt; go_simp; rfl) ?_
      simp only [Act.put, List.setIfInBounds_toArray, List.set_cons_zero, List.set_cons_succ]
    refine held_step rfl (fun K hK => ?_)
    go_simp
    refine hK _ _ ((hgr.set _).set _) ?_
    clear hK K q0 q1
    refine held_nil ?_
    go_wp2
    exact bodyPost_ret (v := .tuple #[.agg #[.int .i64 n, .slice (some ⟨g, o + d, none⟩) (m - d) (c - d)], .int .i64 d]) (by simp [results, Try.results30, go_sem, b2, b3, f2, f3]) rfl
      ⟨rfl, (xW.set (by omega) _).set (by omega) _⟩

set_option maxHeartbeats 1000000 in
theorem rdrop_midc (w : World) (n : Int) (g o m c : Nat) (hm : m ≤ 1000000) (hc : m ≤ c) (hd : 0 < m) (hcm : c = m) :
    Calls Try.prog 30 #[.agg #[.int .i64 n, .slice (some ⟨g, o, none⟩) m c], .int .i64 m] w (DropPost n m (.slice (some ⟨g, o, none⟩) 0 0) w) := by
  subst hcm
  have n0 : (0 : Int) ≤ (c : Nat) := by omega
  have n00 : (0 : Int) ≤ c := by omega
  go_enter Try.func30, Try.ntmps30
  go_wp2
  all_goals
    refine region_held (some (w.heap.size + 1)) [(0, true), (1, true), (2, true), (3, true), (4, true), (5, true), (6, true), (7, true), (8, false)] [9] (by kernel_rfl) (by kernel_rfl) (fun _ _ d _ _ h => by cases d <;> exact h) (fun W hW => ?_)
    simp only [pick, pickF, List.getElem?_cons_zero, List.getElem?_cons_succ]
    have xW : Ext w W := hW ▸ ((Ext.alloc _ _).al _).dr
    have b0 : W.cell? ⟨w.heap.size, 0, none⟩ = some (.int .i64 n) := by rw [hW]; go_simp
    have b1 : W.cell? ⟨w.heap.size, 1, none⟩ = some (Value.slice (some ⟨g, o, none⟩) c c) := by rw [hW]; go_simp
    have b2 : W.cell? ⟨w.heap.size + 1, 0, none⟩ = some (.int .i64 0) := by rw [hW]; go_simp
    have b3 : W.cell? ⟨w.heap.size + 1, 1, none⟩ = some (.slice none 0 0) := by rw [hW]; go_simp
    have f2 : W.frozen? ⟨w.heap.size + 1, 0, none⟩ = false := by rw [hW]; go_simp
    have f3 : W.frozen? ⟨w.heap.size + 1, 1, none⟩ = false := by rw [hW]; go_simp
    have sW : w.heap.size + 2 ≤ W.heap.size := by rw [hW]; simp
    clear hW
    have q0 : ∀ w1, Gr (some (w.heap.size + 1)) W w1 → w1.cell? _ = _ := fun w1 h => h.cell_some b0 (by simp)
    have q1 : ∀ w1, Gr (some (w.heap.size + 1)) W w1 → w1.cell? _ = _ := fun w1 h => h.cell_some b1 (by simp)
    have hgr := Gr.refl (some (w.heap.size + 1)) W
    iterate 8
      refine held_yes hgr _ rfl (fun w1 hw1 => by unfold Oper.quietAt; go_simp; rfl) ?_
      simp only [Act.put, List.setIfInBounds_toArray, List.set_cons_zero, List.set_cons_succ]
    refine held_step rfl (fun K hK => ?_)
    go_simp
    refine hK _ _ ((hgr.set _).set _) ?_
    clear hK K q0 q1
    refine held_nil ?_
    go_wp2
    exact bodyPost_ret (v := .tuple #[.agg #[.int .i64 n, .slice (some ⟨g, o, none⟩) 0 0], .int .i64 c]) (by simp [results, Try.results30, go_sem, b2, b3, f2, f3]) rfl
      ⟨rfl, (xW.set (by omega) _).set (by omega) _⟩

set_option maxHeartbeats 1000000 in
theorem rdrop_all (w : World) (n x : Int) (g o m c : Nat) (hm : m ≤ 1000000) (hc : m ≤ c) (hx : (m : Int) < x) (hm0 : 0 < m) (hcm : c ≠ m) :
    Calls Try.prog 30 #[.agg #[.int .i64 n, .slice (some ⟨g, o, none⟩) m c], .int .i64 x] w (DropPost n m (.slice (some ⟨g, o + m, none⟩) 0 (c - m)) w) := by
  have n4 : ¬ c = m := hcm
  have n0 : (0 : Int) ≤ (m : Nat) := by omega
  have n00 : (0 : Int) ≤ c := by omega
  go_enter Try.func30, Try.ntmps30
  go_wp2
  all_goals
    refine region_held (some (w.heap.size + 1)) [(0, true), (1, true), (2, true), (3, true), (4, true), (5, true), (6, true), (7, true), (8, false)] [9] (by kernel_rfl) (by kernel_rfl) (fun _ _ d _ _ h => by cases d <;> exact h) (fun W hW => ?_)
    simp only [pick, pickF, List.getElem?_cons_zero, List.getElem?_cons_succ]
    have xW : Ext w W := hW ▸ ((Ext.alloc _ _).al _).dr
    have b0 : W.cell? ⟨w.heap.size, 0, none⟩ = some (.int .i64 n) := by rw [hW]; go_simp
    have b1 : W.cell? ⟨w.heap.size, 1, none⟩ = some (Value.slice (some ⟨g, o, none⟩) m c) := by rw [hW]; go_simp
    have b2 : W.cell? ⟨w.heap.size + 1, 0, none⟩ = some (.int .i64 0) := by rw [hW]; go_simp
    have b3 : W.cell? ⟨w.heap.size + 1, 1, none⟩ = some (.slice none 0 0) := by rw [hW]; go_simp
    have f2 : W.frozen? ⟨w.heap.size + 1, 0, none⟩ = false := by rw [hW]; go_simp
    have f3 : W.frozen? ⟨w.heap.size + 1, 1, none⟩ = false := by rw [hW]; go_simp
    have sW : w.heap.size + 2 ≤ W.heap.size := by rw [hW]; simp
    clear hW
    have q0 : ∀ w1, Gr (some (w.heap.size + 1)) W w1 → w1.cell? _ = _ := fun w1 h => h.cell_some b0 (by simp)
    have q1 : ∀ w1, Gr (some (w.heap.size + 1)) W w1 → w1.cell? _ = _ := fun w1 h => h.cell_some b1 (by simp)
    have hgr := Gr.refl (some (w.heap.size + 1)) W
    iterate 8
      refine held_yes hgr _ rfl (fun w1 hw1 => by unfold Oper.quietAt; go_simp; rfl) ?_
      simp only [Act.put, List.setIfInBounds_toArray, List.set_cons_zero, List.set_cons_succ]
    refine held_step rfl (fun K hK => ?_)
    go_simp
    refine hK _ _ ((hgr.set _).set _) ?_
    clear hK K q0 q1
    refine held_nil ?_
    go_wp2
    exact bodyPost_ret (v := .tuple #[.agg #[.int .i64 n, .slice (some ⟨g, o + m, none⟩) 0 (c - m)], .int .i64 m]) (by simp [results, Try.results30, go_sem, b2, b3, f2, f3]) rfl
      ⟨rfl, (xW.set (by omega) _).set (by omega) _⟩

set_option maxHeartbeats 1000000 in
theorem rdrop_allc (w : World) (n x : Int) (g o m c : Nat) (hm : m ≤ 1000000) (hc : m ≤ c) (hx : (m : Int) < x) (hm0 : 0 < m) (hcm : c = m) :
    Calls Try.prog 30 #[.agg #[.int .i64 n, .slice (some ⟨g, o, none⟩) m c], .int .i64 x] w (DropPost n m (.slice (some ⟨g, o, none⟩) 0 0) w) := by
  subst hcm
  have n0 : (0 : Int) ≤ (c : Nat) := by omega
  have n00 : (0 : Int) ≤ c := by omega
  go_enter Try.func30, Try.ntmps30
  go_wp2
  all_goals
    refine region_held (some (w.heap.size + 1)) [(0, true), (1, true), (2, true), (3, true), (4, true), (5, true), (6, true), (7, true), (8, false)] [9] (by kernel_rfl) (by kernel_rfl) (fun _ _ d _ _ h => by cases d <;> exact h) (fun W hW => ?_)
    simp only [pick, pickF, List.getElem?_cons_zero, List.getElem?_cons_succ]
    have xW : Ext w W := hW ▸ ((Ext.alloc _ _).al _).dr
    have b0 : W.cell? ⟨w.heap.size, 0, none⟩ = some (.int .i64 n) := by rw [hW]; go_simp
    have b1 : W.cell? ⟨w.heap.size, 1, none⟩ = some (Value.slice (some ⟨g, o, none⟩) c c) := by rw [hW]; go_simp
    have b2 : W.cell? ⟨w.heap.size + 1, 0, none⟩ = some (.int .i64 0) := by rw [hW]; go_simp
    have b3 : W.cell? ⟨w.heap.size + 1, 1, none⟩ = some (.slice none 0 0) := by rw [hW]; go_simp
    have f2 : W.frozen? ⟨w.heap.size + 1, 0, none⟩ = false := by rw [hW]; go_simp
    have f3 : W.frozen? ⟨w.heap.size + 1, 1, none⟩ = false := by rw [hW]; go_simp
    have sW : w.heap.size + 2 ≤ W.heap.size := by rw [hW]; simp
    clear hW
    have q0 : ∀ w1, Gr (some (w.heap.size + 1)) W w1 → w1.cell? _ = _ := fun w1 h => h.cell_some b0 (by simp)
    have q1 : ∀ w1, Gr (some (w.heap.size + 1)) W w1 → w1.cell? _ = _ := fun w1 h => h.cell_some b1 (by simp)
    have hgr := Gr.refl (some (w.heap.size + 1)) W
    iterate 8
      refine held_yes hgr _ rfl (fun w1 hw1 => by unfold Oper.quietAt; go_simp; rfl) ?_
      simp only [Act.put, List.setIfInBounds_toArray, List.set_cons_zero, List.set_cons_succ]
    refine held_step rfl (fun K hK => ?_)
    go_simp
    refine hK _ _ ((hgr.set _).set _) ?_
    clear hK K q0 q1
    refine held_nil ?_
    go_wp2
    exact bodyPost_ret (v := .tuple #[.agg #[.int .i64 n, .slice (some ⟨g, o, none⟩) 0 0], .int .i64 c]) (by simp [results, Try.results30, go_sem, b2, b3, f2, f3]) rfl
      ⟨rfl, (xW.set (by omega) _).set (by omega) _⟩

set_option maxHeartbeats 1000000 in
theorem rdrop_empty (w : World) (n x : Int) (g o m c : Nat) (hm : m ≤ 1000000) (hc : m ≤ c) (hx : 0 < x) (hm0 : m = 0) :
    Calls Try.prog 30 #[.agg #[.int .i64 n, .slice (some ⟨g, o, none⟩) m c], .int .i64 x] w (DropPost n 0 (.slice (some ⟨g, o, none⟩) 0 c) w) := by
  subst hm0
  have n0 : (0 : Int) ≤ (0 : Nat) := by omega
  have n00 : (0 : Int) ≤ c := by omega
  go_enter Try.func30, Try.ntmps30
  go_wp2
  all_goals
    refine region_held (some (w.heap.size + 1)) [(0, true), (1, true), (2, true), (3, true), (4, true), (5, true), (6, true), (7, true), (8, false)] [9] (by kernel_rfl) (by kernel_rfl) (fun _ _ d _ _ h => by cases d <;> exact h) (fun W hW => ?_)
    simp only [pick, pickF, List.getElem?_cons_zero, List.getElem?_cons_succ]
    have xW : Ext w W := hW ▸ ((Ext.alloc _ _).al _).dr
    have b0 : W.cell? ⟨w.heap.size, 0, none⟩ = some (.int .i64 n) := by rw [hW]; go_simp
    have b1 : W.cell? ⟨w.heap.size, 1, none⟩ = some (Value.slice (some ⟨g, o, none⟩) 0 c) := by rw [hW]; go_simp
    have b2 : W.cell? ⟨w.heap.size + 1, 0, none⟩ = some (.int .i64 0) := by rw [hW]; go_simp
    have b3 : W.cell? ⟨w.heap.size + 1, 1, none⟩ = some (.slice none 0 0) := by rw [hW]; go_simp
    have f2 : W.frozen? ⟨w.heap.size + 1, 0, none⟩ = false := by rw [hW]; go_simp
    have f3 : W.frozen? ⟨w.heap.size + 1, 1, none⟩ = false := by rw [hW]; go_simp
    have sW : w.heap.size + 2 ≤ W.heap.size := by rw [hW]; simp
    clear hW
    have q0 : ∀ w1, Gr (some (w.heap.size + 1)) W w1 → w1.cell? _ = _ := fun w1 h => h.cell_some b0 (by simp)
    have q1 : ∀ w1, Gr (some (w.heap.size + 1)) W w1 → w1.cell? _ = _ := fun w1 h => h.cell_some b1 (by simp)
    have hgr := Gr.refl (some (w.heap.size + 1)) W
    iterate 8
      refine held_yes hgr _ rfl (fun w1 hw1 => by unfold Oper.quietAt; go_simp; rfl) ?_
      simp only [Act.put, List.setIfInBounds_toArray, List.set_cons_zero, List.set_cons_succ]
    refine held_step rfl (fun K hK => ?_)
    go_simp
    refine hK _ _ ((hgr.set _).set _) ?_
    clear hK K q0 q1
    refine held_nil ?_
    go_wp2
    exact bodyPost_ret (v := .tuple #[.agg #[.int .i64 n, .slice (some ⟨g, o, none⟩) 0 c], .int .i64 0]) (by simp [results, Try.results30, go_sem, b2, b3, f2, f3]) rfl
      ⟨rfl, (xW.set (by omega) _).set (by omega) _⟩

set_option maxHeartbeats 400000 in
theorem rat_out (w : World) (n i : Int) (a : Option Addr) (m c : Nat) (h : i < 0 ∨ (m : Int) ≤ i) :
    Calls Try.prog 19 #[.agg #[.int .i64 n, .slice a m c], .int .i64 i] w fun e w' => e = .returned (.tuple #[.int .i64 0, .bool false]) ∧ Ext w w' := by
  rcases h with h | h
  · have hd : decide (i < 0) = true := by simpa using h
    go_enter Try.func19, Try.ntmps19
    go_wp2
    go_ret2
    exact ⟨rfl, Ext.alloc _ _⟩
  · have hd : decide (i < 0) = false := by simp; omega
    go_enter Try.func19, Try.ntmps19
    go_wp2
    go_ret2
    exact ⟨rfl, Ext.alloc _ _⟩

set_option maxHeartbeats 400000 in
theorem rat_in (w : World) (n : Int) (g o m c k : Nat) (x : Int) (hk : k < m) (hm : m ≤ 1000000) (hx : w.cell? ⟨g, o + k, none⟩ = some (.int .i64 x)) :
    Calls Try.prog 19 #[.agg #[.int .i64 n, .slice (some ⟨g, o, none⟩) m c], .int .i64 k] w fun e w' => e = .returned (.tuple #[.int .i64 x, .bool true]) ∧ Ext w w' := by
  have hd : decide ((k : Int) < 0) = false := by simp
  have hk2 : (k : Int) < m := by omega
  have hx2 : ∀ o1, (w.alloc o1).cell? ⟨g, o + k, none⟩ = some (.int .i64 x) := fun o1 => (Ext.alloc w o1).cell_some hx
  clear hx
  go_enter Try.func19, Try.ntmps19
  go_wp2
  go_ret2
  exact ⟨rfl, Ext.alloc _ _⟩

set_option maxHeartbeats 400000 in
theorem rfind_any (w : World) (n x : Int) (a : Option Addr) (m c : Nat) (L : List Int) (hL : m = L.length) (hm : m ≤ 1000000) (hA : Hid (CellsAt w a L)) :
    Calls Try.prog 23 #[.agg #[.int .i64 n, .slice a m c], .int .i64 x] w fun e w' => e = .returned (.int .i64 (fnd L x)) ∧ Ext w w' := by
  have HL := Lib.hid hL
  clear hL
  go_enter Try.func23, Try.ntmps23
  go_wp2
  go_loop [5] (fun i => ∃ k : Nat, k ≤ m ∧ i = .int .i64 k ∧ Hid (∀ j, j < k → L.getD j 0 ≠ x)) (fun i => m - (intOf i).toNat)
  case atStart => exact ⟨0, by omega, rfl, Lib.hid (fun j hj => absurd hj (by omega))⟩
  case round =>
    obtain ⟨k, hk, rfl, hno⟩ := hrel
    by_cases hlt : k < m
    · obtain ⟨g, o, z, rfl, hz, hg, hc⟩ := hA.out.get (show k < L.length by have := HL.out; omega)
      have hlt2 : (k : Int) < m := by omega
      have hc2 : ∀ o1, (w.alloc o1).cell? ⟨g, o + k, none⟩ = some (.int .i64 z) := fun o1 => (Ext.alloc w o1).cell_some hc
      have hz2 : L.getD k 0 = z := by rw [← hz]; simp [List.getD_eq_getElem?_getD, show k < L.length by have := HL.out; omega]
      have HZ := Lib.hid hz2
      clear hz hz2 hc
      by_cases he : z = x
      · have hb : (z == x) = true := by simp [he]
        have he := Lib.hid he
        go_wp2
        go_ret
        exact ⟨ret_int (fnd_hit L x k (by have := HL.out; omega) hno.out (HZ.out.trans he.out)).symm, Ext.alloc _ _⟩
      · have hb : (z == x) = false := by simp [he]
        have he := Lib.hid he
        go_wp2
        go_round
        case rel => exact ⟨k + 1, by omega, by go_num, Lib.hid (fun j hj => by
          by_cases e : j = k
          · subst e; rw [HZ.out]; exact he.out
          · exact hno.out j (by omega))⟩
        case measure => simp [intOf]; omega
    · go_wp2
      go_ret
      exact ⟨ret_int (fnd_miss L x (fun j hj => hno.out j (by have := HL.out; omega))).symm, Ext.alloc _ _⟩

end Go.Proofs.Ytdkblgbmbjagfaa
