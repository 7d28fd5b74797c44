/- The document's ring, a value: what is put, pushed, dropped, found. -/
import Derived.Test.YtdkblgbmbjagfaaK
import Derived.Laws.AppendOwnNone
namespace Go.Proofs.Ytdkblgbmbjagfaa
open Go.RowKit

theorem Gr.grownNew {row : Option Nat} {W w w' : World} (h : Gr row W w) {r : Option Nat} (hg : w.grownBy w' r) (hr : ∀ k, r = some k → W.heap.size ≤ k) : Gr row W w' :=
  ⟨hg.os.trans h.os, hg.tape.trans h.tape, hg.output.trans h.output, Nat.le_trans h.size hg.size, fun k hk hn => (hg.block k (Nat.lt_of_lt_of_le hk h.size) (fun e => by have := hr k e.symm; omega)).trans (h.block k hk hn)⟩

theorem add_zero_eq (g o j : Nat) : (⟨g, o, none⟩ : Addr).add j = ⟨g, o + j, none⟩ := by
  unfold Addr.add; split
  · rename_i h; subst h; rfl
  · rfl

/-- Numbers are appended to a row of the call's own. -/
theorem wp_append_ints {o : Oper} {a : Act} {w : World} {K : Act → World → Prop} {Q : Exit → Act → World → Prop} (s x : Operand) (ho : o.op = .call { callee := .builtin .append, args := #[s, x], argTypes := #[28, 28] })
    (base : Nat) (v : Value) (xs : List Int) (hs : a.eval s = v) (hown : w.ownsRow base 3 1 v xs.length (xs.map (Value.int .i64))) (u : Value) (ys : List Int) (hx : a.eval x = u) (hu : IntsV w u ys)
    (hxs : xs.length ≤ 1000000) (hbase : base ≤ w.heap.size)
    (h : ∀ v' w', w'.ownsRow base 3 1 v' (xs ++ ys).length ((xs ++ ys).map (Value.int .i64)) → w.grownBy w' v.ownBlock → K (a.put o.dst v') w') : o.wp Try.prog a w K Q := by
  obtain ⟨i0, hi, hz0, hz1, hz2⟩ := info_parts Try.info3
  obtain ⟨hys, ⟨rfl, rfl⟩ | ⟨g, p, c, rfl, _, hc⟩⟩ := hu
  · have hrun := run_append_owned_none (P := Try.prog) (w := w) base 28 o.type 3 i0 1 Try.underlying28 hi v xs.length (xs.map (Value.int .i64)) hown
    unfold Oper.wp
    simp [execOp, ho, resolve, invoke, builtin, hs, hx, hrun, Result.andThen, Oper.upon]
    exact h _ _ (by simpa using hown) ⟨rfl, rfl, rfl, Nat.le_refl _, fun _ _ _ => rfl⟩
  · refine wp_append_own w s x 28 ho base 3 i0 (.int .i64 0) 1 8 Try.underlying28 hi hz0 hz1 hz2 rfl (by decide) v xs.length _ hs hown ⟨g, p, none⟩ ys.length c (ys.map (Value.int .i64)) hx (by simp) ?_ ?_ (by unfold maxLen; omega) (by omega) hbase ?_
    · intro j u hj
      have hl : j < ys.length := by simpa using (List.getElem?_eq_some_iff.1 hj).1
      rw [add_zero_eq, hc j hl]
      simp [hl] at hj
      simp [List.getD_eq_getElem?_getD, hl, hj]
    · intro u hu
      simp at hu
      obtain ⟨z, _, rfl⟩ := hu
      rfl
    · intro v' w' h2 h3 _
      exact h v' w' (by simpa using h2) h3

theorem IntsV.other {w : World} {v : Value} {l : List Int} (h : IntsV w v l) {b o : Nat} {u : Value} (hb : ∀ g o c l, v = .slice (some ⟨g, o, none⟩) l c → g ≠ b) : IntsV (w.setCell ⟨b, o, none⟩ u) v l := by
  obtain ⟨hm, h | ⟨g, p, c, hv, hl, hc⟩⟩ := h
  · exact ⟨hm, .inl h⟩
  · have := hb g p c _ hv
    exact ⟨hm, .inr ⟨g, p, c, hv, ⟨hl.1, by simpa [World.setCell] using hl.2⟩, fun j hj => (World.cell?_of_block (w := w) (Below.heap_setCell _ _ _ _ this)).trans (hc j hj)⟩⟩

def PutPost (n : Int) (L : List Int) (w : World) (e : Ending) (w' : World) : Prop := ∃ s, e = .returned (.tuple #[.agg #[.int .i64 n, s], .bool true]) ∧ IntsV w' s L ∧ (∀ g o c l, s = .slice (some ⟨g, o, none⟩) l c → w.heap.size ≤ g) ∧ Ext w w'

set_option maxRecDepth 100000 in
set_option maxHeartbeats 1000000 in
theorem rput_room (w : World) (n x : Int) (a : Option Addr) (m c : Nat) (L : List Int) (hL : m = L.length) (hi : Hid (IntsV w (.slice a m c) L)) (hm : m ≤ 900000) (h : (m : Int) < n) :
    Calls Try.prog 31 #[.agg #[.int .i64 n, .slice a m c], .int .i64 x] w (PutPost n (L ++ [x]) w) := by
  have HL := Lib.hid hL
  clear hL
  go_enter Try.func31, Try.ntmps31
  go_wp2
  case' _ =>
    refine region_heldFork (some (w.heap.size + 1)) [(0, true), (1, true), (2, true), (3, true), (4, true), (6, true)] 5 7 [(7, false), (8, false), (9, true), (10, false)] [(5, false), (8, false), (9, true), (10, false)] [11] (by kernel_rfl) (by kernel_rfl) (fun _ _ d _ _ h => by cases d <;> exact h) (fun W hW => ?_)
    simp only [pick, pickF, List.getElem?_cons_zero, List.getElem?_cons_succ]
    have xW : Ext w W := hW ▸ ((Ext.alloc _ _).al _).dr
    have b0 : W.cell? ⟨w.heap.size, 0, none⟩ = some (.int .i64 n) := by rw [hW]; go_simp
    have b1 : W.cell? ⟨w.heap.size, 1, none⟩ = some (.slice a m c) := by rw [hW]; go_simp
    have b2 : W.cell? ⟨w.heap.size + 1, 0, none⟩ = some (.int .i64 0) := by rw [hW]; go_simp
    have b3 : W.cell? ⟨w.heap.size + 1, 1, none⟩ = some (.slice none 0 0) := by rw [hW]; go_simp
    have f2 : W.frozen? ⟨w.heap.size + 1, 0, none⟩ = false := by rw [hW]; go_simp
    have f3 : W.frozen? ⟨w.heap.size + 1, 1, none⟩ = false := by rw [hW]; go_simp
    have sW : w.heap.size + 2 ≤ W.heap.size := by rw [hW]; simp
    clear hW
    have q0 : ∀ w1, Gr (some (w.heap.size + 1)) W w1 → w1.cell? _ = _ := fun w1 h => h.cell_some b0 (by simp)
    have q1 : ∀ w1, Gr (some (w.heap.size + 1)) W w1 → w1.cell? _ = _ := fun w1 h => h.cell_some b1 (by simp)
    have hgr := Gr.refl (some (w.heap.size + 1)) W
    iterate 6
      refine heldK_yes hgr _ rfl (fun w1 hw1 => by unfold Oper.quietAt; go_simp; rfl) ?_
      simp only [Act.put, List.setIfInBounds_toArray, List.set_cons_zero, List.set_cons_succ]
    refine flowK_nil ⟨?_, ?_⟩
  case' refine_1 =>
    clear q0 q1
    refine held_step rfl (fun K hK => ?_)
    refine wp_append_ints (.tmp 16) (.tmp 18) rfl W.heap.size _ [] rfl (World.ownsRow_nil _ _ _ _) _ L rfl (hi.out.ext xW) (by simp) (Nat.le_refl _) ?_
    intro v5 w5 o5 g5
    have x5 : Ext W w5 := Below.grown (Ext.refl W) g5 (Nat.le_refl _) (fun k hk => by cases hk)
    refine hK _ _ (x5.gr _) ?_
    clear hK K g5
    simp only [Act.put, List.setIfInBounds_toArray, List.set_cons_zero, List.set_cons_succ]
    rw [List.nil_append] at o5
    refine held_step rfl (fun K hK => ?_)
    go_simp
    refine hK _ _ ((x5.al _).gr _) ?_
    clear hK K
    have o7 := o5.alloc (.cells #[.int .i64 x] 3)
    have x7 := x5.al (.cells #[.int .i64 x] 3)
    have c7 : (w5.alloc (.cells #[.int .i64 x] 3)).cell? ⟨w5.heap.size, 0, none⟩ = some (.int .i64 x) := by simp
    clear o5 x5
    generalize w5.heap.size = g7 at *
    generalize w5.alloc (.cells #[.int .i64 x] 3) = w7 at *
  case' refine_2 =>
    clear q0 q1
    refine held_step rfl (fun K hK => ?_)
    go_simp
    have x6 := Ext.alloc W (.cells #[.int .i64 x] 3)
    have c6 : (W.alloc (.cells #[.int .i64 x] 3)).cell? ⟨W.heap.size, 0, none⟩ = some (.int .i64 x) := by simp
    refine hK _ _ (x6.gr _) ?_
    clear hK K
    refine held_step rfl (fun K hK => ?_)
    refine wp_append_ints (.tmp 16) (.tmp 18) rfl W.heap.size _ [] rfl (World.ownsRow_nil _ _ _ _) _ L rfl (hi.out.ext (xW.trans x6)) (by simp) x6.size ?_
    intro v5 w7 o7 g7
    have y7 : Ext (W.alloc (.cells #[.int .i64 x] 3)) w7 := Below.grown (Ext.refl _) g7 (Nat.le_refl _) (fun k hk => by cases hk)
    have x7 := x6.trans y7
    refine hK _ _ (x7.gr _) ?_
    clear hK K g7
    simp only [Act.put, List.setIfInBounds_toArray, List.set_cons_zero, List.set_cons_succ]
    rw [List.nil_append] at o7
    have c7 := y7.cell_some c6
    clear c6 x6 y7
    generalize hg7 : W.heap.size = g7 at c7 ⊢
    clear hg7
  all_goals
    have i7 : IntsV w7 (.slice (some ⟨g7, 0, none⟩) 1 1) [x] := ⟨by simp, .inr ⟨g7, 0, 1, rfl, ⟨by simp, lt_of_cell c7⟩, fun j hj => by
      have e : j = 0 := by simpa using hj
      subst e; simpa using c7⟩⟩
    refine held_step rfl (fun K hK => ?_)
    refine wp_append_ints (.tmp 19) (.tmp 21) rfl W.heap.size v5 L rfl o7 _ [x] rfl i7 (by have := HL.out; omega) x7.size ?_
    intro v8 w8 o8 g8
    have x8 : Ext W w8 := Below.grown x7 g8 x7.size (fun k hk => (o7.lt k hk).1)
    refine hK _ _ (x8.gr _) ?_
    clear hK K g8 o7 x7 c7 i7
    have i8 := IntsV.of_own o8 (by have := HL.out; simp; omega)
    have s8 := own_slice o8
    obtain ⟨a8, c8, rfl, s8⟩ := s8
    simp only [Act.put, List.setIfInBounds_toArray, List.set_cons_zero, List.set_cons_succ]
    refine held_yes (x8.gr _) _ rfl (fun w1 hw1 => by unfold Oper.quietAt; go_simp; rfl) ?_
    simp only [Act.put, List.setIfInBounds_toArray, List.set_cons_zero, List.set_cons_succ]
    have b2 := x8.cell_some b2
    have b3 := x8.cell_some b3
    have f2 : w8.frozen? ⟨w.heap.size + 1, 0, none⟩ = false := (x8.frozen (by show w.heap.size + 1 < _; omega)).trans f2
    have f3 : w8.frozen? ⟨w.heap.size + 1, 1, none⟩ = false := (x8.frozen (by show w.heap.size + 1 < _; omega)).trans f3
    have lt8 : ∀ k, (Value.slice a8 (L ++ [x]).length c8).ownBlock = some k → W.heap.size ≤ k := fun k hk => (o8.lt k hk).1
    clear o8 s8
    refine held_step rfl (fun K hK => ?_)
    go_simp
    refine hK _ _ (((x8.gr _).set _).set _) ?_
    clear hK K
    refine held_nil ?_
    go_wp2
    have e : (L ++ [x]).length = L.length + 1 := by simp
    rw [e] at i8 lt8
    have hne : ∀ g o c l, Value.slice a8 (L.length + 1) c8 = .slice (some ⟨g, o, none⟩) l c → g ≠ w.heap.size + 1 := fun g o c l he => by
      have := lt8 g (by rw [he]; rfl); omega
    exact bodyPost_ret (v := .tuple #[.agg #[.int .i64 n, .slice a8 (L.length + 1) c8], .bool true]) (by simp [results, Try.results31, go_sem, b2, b3, f2, f3]) rfl
      ⟨_, rfl, (i8.other hne).other hne, fun g o c l he => by (have := lt8 g (by rw [he]; rfl)); omega, ((xW.trans x8).set (by omega) _).set (by omega) _⟩

end Go.Proofs.Ytdkblgbmbjagfaa
