/- The walk of the law on a ring's plays. -/
import Derived.Test.YtdkblgbmbjagfaaR
namespace Go.Proofs.Ytdkblgbmbjagfaa
open Go.RowKit

/-- Block b is a ring that holds L; block bm is the document's, of the same. -/
def PlayI (w : World) (b bm : Nat) (n : Int) (wr : World) (L : List Int) : Prop :=
  ∃ s, Ring wr b n L ∧ wr.cell? ⟨bm, 0, none⟩ = some (.int .i64 n) ∧ wr.cell? ⟨bm, 1, none⟩ = some s ∧ wr.frozen? ⟨bm, 0, none⟩ = false ∧ wr.frozen? ⟨bm, 1, none⟩ = false ∧
    IntsV wr s L ∧ Apart s b ∧ Apart s bm ∧ Ext w wr ∧ w.heap.size ≤ b ∧ bm < wr.heap.size ∧ b < bm

section
variable {P : Program} {l tl : List Oper} {Q : Exit → Act → World → Prop} {W : World} {row : Option Nat} {a : Act} {w : World} {o : Oper} {r : List (Oper × Bool)}
theorem held_yesG (hg : Gr row W w) (v : Value) (hd : Region.wanted o (yielded l.toArray a.tmps) = true) (hv : ∀ w1, Gr row W w1 → o.quietAt P a (Eq w1) w1 v) (h : flow (Held W row) Eq P l Q tl r (a.put o.dst v) w) :
    flow (Held W row) Eq P l Q tl ((o, true) :: r) a w := flow_yesG v hd (fun w1 hw1 => hv w1 (hw1 hg)) h
theorem held_stepG (hd : Region.wanted o (yielded l.toArray a.tmps) = true) (h : ∀ K : Act → World → Prop, (∀ a' w', Gr row W w' → flow (Held W row) Eq P l Q tl r a' w' → K a' w') → o.wp P a w K Q) :
    flow (Held W row) Eq P l Q tl ((o, false) :: r) a w := by
  intro w1 hw1
  subst hw1
  simp only [hd, if_true]
  exact Oper.wp_mono (fun a' w' h' => ⟨fun _ => h'.1, h'.2⟩) (h (fun a' w' => Gr row W w' ∧ flow (Held W row) Eq P l Q tl r a' w') (fun a' w' h1 h2 => ⟨h1, h2⟩))
end

theorem IntsV.grown {w w' : World} {v : Value} {l : List Int} {b : Nat} (h : IntsV w v l) (hg : w.grownBy w' (some b)) (ha : Apart v b) : IntsV w' v l := by
  obtain ⟨hm, h | ⟨g, o, c, hv, hl, hc⟩⟩ := h
  · exact ⟨hm, .inl h⟩
  · have hne := ha g o c _ hv
    exact ⟨hm, .inr ⟨g, o, c, hv, ⟨hl.1, Nat.lt_of_lt_of_le hl.2 hg.size⟩, fun j hj => (World.cell?_of_block (w := w) (hg.block g hl.2 (by simp; omega))).trans (hc j hj)⟩⟩

set_option maxRecDepth 100000 in
set_option maxHeartbeats 1000000 in
theorem plays_bad (w : World) (a : Option Addr) (c : Nat) (n i : Int) (l : List (Int × Int)) (hl : l.length ≤ 80) (hn : n < 1 ∨ 64 < n) :
    Calls Try.prog 5 #[.int .i64 n, .slice a l.length c, .int .i64 i] w fun e w' => e = .returned (.bool true) ∧ Ext w w' := by
  have hd : decide ((80:Int) < l.length) = false := by simp; omega
  have HN := Lib.hid hn
  clear hn
  go_enter Try.func5, Try.ntmps5
  go_wp2_with fail
  refine (new_bad _ n HN.out).mono ?_
  rintro e w1 ⟨rfl, hw⟩
  rw [hw]
  clear hw w1
  go_wp2_with fail
  refine (rnew_bad _ n HN.out).mono ?_
  rintro e w2 ⟨rfl, x2⟩
  go_wp2_with fail
  go_loopw [11] (fun k wr => k = .int .i64 0 ∧ Ext w wr) (fun _ _ => 0)
  case atStart => exact ⟨rfl, x2.al _⟩
  case round =>
    obtain ⟨rfl, hx⟩ := hrel
    clear x2
    by_cases h0 : 0 < l.length
    all_goals
      go_wp2_with fail
      refine (awake_any _).mono ?_
      rintro e w4 ⟨rfl, y4⟩
      go_wp2_with fail
      go_ret
      exact ⟨rfl, hx.trans y4⟩

set_option maxRecDepth 100000 in
set_option maxHeartbeats 1000000 in
theorem plays_walk (w : World) (a : Option Addr) (c : Nat) (n i : Int) (l : List (Int × Int)) (hl : l.length ≤ 80) (hn1 : 1 ≤ n) (hn2 : n ≤ 64) (hA : Hid (ActsAt w a l)) :
    Calls Try.prog 5 #[.int .i64 n, .slice a l.length c, .int .i64 i] w fun e w' => e = .returned (.bool true) ∧ Ext w w' := by
  go_enter Try.func5, Try.ntmps5
  go_wp2_with fail
  refine (new_ring _ n hn1 hn2).mono ?_
  rintro e w1 ⟨rfl, r1, x1⟩
  have hbs := r1.lt
  generalize hb : w.heap.size = b at r1 hbs
  have HB := Lib.hid hb
  clear hb
  go_wp2_with fail
  refine (rnew_good _ n hn1 hn2).mono ?_
  rintro e w2 ⟨rfl, x2⟩
  go_wp2_with fail
  obtain ⟨w3, hw3⟩ : ∃ w3, w3 = w2.alloc (.cells #[.int .i64 n, .slice none 0 0] 38) := ⟨_, rfl⟩
  rw [← hw3]
  obtain ⟨bm, hbm⟩ : ∃ bm, bm = w2.heap.size := ⟨_, rfl⟩
  rw [← hbm]
  have hI : PlayI w b bm n w3 [] := by
    have e := (Ext.alloc w2 (.cells #[.int .i64 n, .slice none 0 0] 38))
    have hs := x2.size
    have hs1 := x1.size
    have hb := HB.out
    refine ⟨.slice none 0 0, (r1.ext (x2.trans (hw3 ▸ e))), ?_, ?_, ?_, ?_, ?_, ?_, ?_, ?_, ?_, ?_, ?_⟩
    · rw [hw3, hbm]; go_simp
    · rw [hw3, hbm]; go_simp
    · rw [hw3, hbm]; go_simp
    · rw [hw3, hbm]; go_simp
    · exact ⟨by simp, .inl ⟨rfl, rfl⟩⟩
    · intro g o c l he; cases he
    · intro g o c l he; cases he
    · exact hw3 ▸ (x1.trans x2).al _
    · omega
    · rw [hw3, hbm]; simp
    · omega
  clear hw3 hbm r1 hbs x1 x2 HB
  go_loopw [11] (fun kv wr => ∃ (L : List Int) (k : Nat), kv = .int .i64 k ∧ k ≤ l.length ∧ PlayI w b bm n wr L) (fun i _ => l.length - (intOf i).toNat)
  case atStart => exact ⟨[], 0, rfl, by omega, hI⟩
  case round =>
    clear hI
    obtain ⟨L, k, rfl, hk, hI⟩ := hrel
    by_cases hlt : k < l.length
    · obtain ⟨s, hr, cm, cs, fm, fs, hi, ab, abm, hx, hbs, hbm, hbb⟩ := hI
      obtain ⟨g, o, x, y, rfl, hv, hx0, hx1, hc1, hc2⟩ := hA.out.get hlt
      have cx : wr.cell? ⟨g, o + k * 2, none⟩ = some (.int .u8 x) := hx.cell_some hc1
      have cy : wr.cell? ⟨g, o + k * 2 + 1, none⟩ = some (.int .i64 y) := hx.cell_some hc2
      have hlt2 : (k : Int) < l.length := by omega
      have HV := Lib.hid hv
      clear hv
      have hfit : L.length ≤ 900000 := by obtain ⟨f, xs, hh⟩ := hr; have := hh.fit; omega
      go_wp2_with fail
      refine (do_any wr b n L x y hx0 hx1 hr).mono ?_
      rintro e w2 ⟨rfl, r2, g2⟩
      have x2 := hx.grownRow g2 hbs
      have hne : (bm : Nat) ≠ b := by omega
      have blk : w2.heap[bm]? = wr.heap[bm]? := g2.block bm hbm (by simp; omega)
      have cm2 : w2.cell? ⟨bm, 0, none⟩ = some (.int .i64 n) := (World.cell?_of_block (w := wr) blk).trans cm
      have cs2 : w2.cell? ⟨bm, 1, none⟩ = some s := (World.cell?_of_block (w := wr) blk).trans cs
      have fm2 : w2.frozen? ⟨bm, 0, none⟩ = false := (World.frozen?_of_block (w := wr) blk).trans fm
      have fs2 : w2.frozen? ⟨bm, 1, none⟩ = false := (World.frozen?_of_block (w := wr) blk).trans fs
      have hi2 := hi.grown g2 ab
      have hbm2 : bm < w2.heap.size := Nat.lt_of_lt_of_le hbm g2.size
      have cx2 : w2.cell? ⟨g, o + k * 2, none⟩ = some (.int .u8 x) := x2.cell_some hc1
      have cy2 : w2.cell? ⟨g, o + k * 2 + 1, none⟩ = some (.int .i64 y) := x2.cell_some hc2
      clear cm cs fm fs hi blk g2 hbm hx cx cy hc1 hc2
      go_wp2_with fail
      refine region_heldFork none [(0, true), (1, true), (2, true), (3, true), (4, true)] 5 10 [(6, true), (7, true), (8, true), (9, true), (10, false), (11, false), (12, false)] [(5, false), (6, true), (7, true), (8, true), (9, true), (11, false), (12, false)] [13] (by kernel_rfl) (by kernel_rfl) (fun _ _ d _ _ h => by cases d <;> exact h) (fun W hW => ?_)
      simp only [pick, pickF, List.getElem?_cons_zero, List.getElem?_cons_succ]
      have xd : Ext w2 W := hW ▸ Ext.drew w2
      have xW : Ext w W := x2.trans xd
      have rW := r2.ext xd
      have iW := hi2.ext xd
      have cm := xd.cell_some cm2
      have cs := xd.cell_some cs2
      have fm : W.frozen? ⟨bm, 0, none⟩ = false := (xd.frozen hbm2).trans fm2
      have fs : W.frozen? ⟨bm, 1, none⟩ = false := (xd.frozen hbm2).trans fs2
      have cx := xd.cell_some cx2
      have cy := xd.cell_some cy2
      have hbm : bm < W.heap.size := Nat.lt_of_lt_of_le hbm2 xd.size
      clear hW xd x2 r2 hi2 cm2 cs2 fm2 fs2 cx2 cy2 hbm2
      have q0 : ∀ w1, Gr none W w1 → w1.cell? _ = _ := fun w1 h => h.cell_some cm (by simp)
      have q1 : ∀ w1, Gr none W w1 → w1.cell? _ = _ := fun w1 h => h.cell_some cs (by simp)
      have q2 : ∀ w1, Gr none W w1 → w1.cell? _ = _ := fun w1 h => h.cell_some cx (by simp)
      have q3 : ∀ w1, Gr none W w1 → w1.cell? _ = _ := fun w1 h => h.cell_some cy (by simp)
      have hgr := Gr.refl none W
      iterate 5
        refine heldK_yes hgr _ rfl (fun w1 hw1 => by unfold Oper.quietAt; go_simp; rfl) ?_
        simp only [Act.put, List.setIfInBounds_toArray, List.set_cons_zero, List.set_cons_succ]
      refine flowK_nil ⟨?_, ?_⟩
      case' refine_1 =>
        clear q0 q1 q2 q3 hgr
        refine held_step rfl (fun K hK => ?_)
        go_simp
        refine (model_any W n L x y _ hx0 hx1 ⟨s, rfl, iW⟩ hfit).mono ?_
        rintro e w4 ⟨v4, rfl, r4, src4, x4⟩
        obtain ⟨a4, m4, c4, rfl, i4⟩ := r4.form
        have ab4 : Apart (.slice a4 m4 c4) b := src4.apart (by omega) ab
        have abm4 : Apart (.slice a4 m4 c4) bm := src4.apart (by omega) abm
        have ax4 : Apart (.slice a4 m4 c4) w4.heap.size := fun g o c l he => by have := i4.below g o c l he; omega
        refine hK _ _ (x4.gr _) ?_
        try simp only [Act.put, List.setIfInBounds_toArray, List.set_cons_zero, List.set_cons_succ]
        clear hK K r4 src4
        iterate 4
          refine held_yes (x4.gr _) _ rfl (fun w1 hw1 => by unfold Oper.quietAt; go_simp; rfl) ?_
          simp only [Act.put, List.setIfInBounds_toArray, List.set_cons_zero, List.set_cons_succ]
        refine held_step rfl (fun K hK => ?_)
        go_simp
        refine hK _ _ ((x4.al _).gr _) ?_
        clear hK K
        refine held_step rfl (fun K hK => ?_)
        go_simp
        refine hK _ _ ((x4.al _).gr _) ?_
        clear hK K
        have E5 := x4.al (.cells #[.int .i64 n, .slice a4 m4 c4] 38)
        have I5 : IntsV (w4.alloc (.cells #[.int .i64 n, .slice a4 m4 c4] 38)) (.slice a4 m4 c4) (stepL n L x y) := i4.ext (Ext.alloc _ _)
        have X0 : (w4.alloc (.cells #[.int .i64 n, .slice a4 m4 c4] 38)).cell? ⟨w4.heap.size, 0, none⟩ = some (.int .i64 n) := by go_simp
        have X1 : (w4.alloc (.cells #[.int .i64 n, .slice a4 m4 c4] 38)).cell? ⟨w4.heap.size, 1, none⟩ = some (.slice a4 m4 c4) := by go_simp
        have XW : W.heap.size ≤ w4.heap.size := x4.size
        generalize w4.heap.size = xb at *
        generalize w4.alloc (.cells #[.int .i64 n, .slice a4 m4 c4] 38) = w5 at *
        clear x4 i4 ax4
      case' refine_2 =>
        clear q0 q1 q2 q3 hgr
        refine held_step rfl (fun K hK => ?_)
        go_simp
        obtain ⟨W1, hW1⟩ : ∃ W1, W1 = W.alloc (.cells #[.int .i64 0, .slice none 0 0] 38) := ⟨_, rfl⟩
        rw [← hW1]
        have x1 : Ext W W1 := hW1 ▸ Ext.alloc _ _
        have sW1 : W1.heap.size = W.heap.size + 1 := by rw [hW1]; simp
        have z0 : W1.cell? ⟨W.heap.size, 0, none⟩ = some (.int .i64 0) := by rw [hW1]; go_simp
        have z1 : W1.cell? ⟨W.heap.size, 1, none⟩ = some (.slice none 0 0) := by rw [hW1]; go_simp
        have z2 : W1.frozen? ⟨W.heap.size, 0, none⟩ = false := by rw [hW1]; go_simp
        have z3 : W1.frozen? ⟨W.heap.size, 1, none⟩ = false := by rw [hW1]; go_simp
        clear hW1
        refine hK _ _ (x1.gr _) ?_
        clear hK K
        refine held_step rfl (fun K hK => ?_)
        go_simp
        refine (model_any W1 n L x y _ hx0 hx1 ⟨s, rfl, iW.ext x1⟩ hfit).mono ?_
        rintro e w4 ⟨v4, rfl, r4, src4, x4⟩
        obtain ⟨a4, m4, c4, rfl, i4⟩ := r4.form
        have ab4 : Apart (.slice a4 m4 c4) b := src4.apart (by omega) ab
        have abm4 : Apart (.slice a4 m4 c4) bm := src4.apart (by omega) abm
        have ax4 : Apart (.slice a4 m4 c4) W.heap.size := src4.apart (by omega) (fun g o c l he => by have := iW.below g o c l he; omega)
        refine hK _ _ ((x1.trans x4).gr _) ?_
        try simp only [Act.put, List.setIfInBounds_toArray, List.set_cons_zero, List.set_cons_succ]
        clear hK K r4 src4
        iterate 4
          refine held_yes ((x1.trans x4).gr _) _ rfl (fun w1 hw1 => by unfold Oper.quietAt; go_simp; rfl) ?_
          simp only [Act.put, List.setIfInBounds_toArray, List.set_cons_zero, List.set_cons_succ]
        have z0 := x4.cell_some z0
        have z1 := x4.cell_some z1
        have z2 : w4.frozen? ⟨W.heap.size, 0, none⟩ = false := (x4.frozen (by show W.heap.size < _; omega)).trans z2
        have z3 : w4.frozen? ⟨W.heap.size, 1, none⟩ = false := (x4.frozen (by show W.heap.size < _; omega)).trans z3
        refine held_step rfl (fun K hK => ?_)
        go_simp
        refine hK _ _ ((((x1.trans x4).gr _).setNew (Nat.le_refl _) _).setNew (Nat.le_refl _) _) ?_
        clear hK K
        have E5 := (((x1.trans x4).set (Nat.le_refl _) (o := 0) (.int .i64 n)).set (Nat.le_refl _) (o := 1) (.slice a4 m4 c4))
        have I5 : IntsV ((w4.setCell ⟨W.heap.size, 0, none⟩ (.int .i64 n)).setCell ⟨W.heap.size, 1, none⟩ (.slice a4 m4 c4)) (.slice a4 m4 c4) (stepL n L x y) := (i4.other ax4).other ax4
        have X0 : ((w4.setCell ⟨W.heap.size, 0, none⟩ (.int .i64 n)).setCell ⟨W.heap.size, 1, none⟩ (.slice a4 m4 c4)).cell? ⟨W.heap.size, 0, none⟩ = some (.int .i64 n) := by go_simp
        have X1 : ((w4.setCell ⟨W.heap.size, 0, none⟩ (.int .i64 n)).setCell ⟨W.heap.size, 1, none⟩ (.slice a4 m4 c4)).cell? ⟨W.heap.size, 1, none⟩ = some (.slice a4 m4 c4) := by go_simp
        have XW : W.heap.size ≤ W.heap.size := Nat.le_refl _
        generalize hxb : W.heap.size = xb at X0 X1 XW E5 I5 ⊢
        generalize (w4.setCell ⟨xb, 0, none⟩ (.int .i64 n)).setCell ⟨xb, 1, none⟩ (.slice a4 m4 c4) = w5 at *
        clear x4 i4 ax4 z0 z1 z2 z3 x1 sW1 hxb
      all_goals
        refine held_step rfl (fun K hK => ?_)
        go_simp
        refine hK _ _ (E5.gr _) ?_
        clear hK K
        refine held_nil ?_
        have xT := xW.trans E5
        have r5 := rW.ext E5
        have cm5 := E5.cell_some cm
        have cs5 := E5.cell_some cs
        have fm5 : w5.frozen? ⟨bm, 0, none⟩ = false := (E5.frozen hbm).trans fm
        have fs5 : w5.frozen? ⟨bm, 1, none⟩ = false := (E5.frozen hbm).trans fs
        have hw5 : bm < w5.heap.size := Nat.lt_of_lt_of_le hbm E5.size
        clear E5 xW rW cm cs fm fs cx cy iW ab abm XW hbm
        go_wp2_with fail
        obtain ⟨w6, hw6⟩ : ∃ w6, w6 = (w5.setCell ⟨bm, 0, none⟩ (.int .i64 n)).setCell ⟨bm, 1, none⟩ (.slice a4 m4 c4) := ⟨_, rfl⟩
        rw [← hw6]
        have I6 : IntsV w6 (.slice a4 m4 c4) (stepL n L x y) := hw6 ▸ (I5.other abm4).other abm4
        have x6 : Ext w w6 := hw6 ▸ (xT.set (by omega) _).set (by omega) _
        have r6 : Ring w6 b n (stepL n L x y) := by
          obtain ⟨f, xs, hh⟩ := r5
          exact ⟨f, xs, hh.of_blk (hw6 ▸ (Below.heap_setCell _ _ _ _ (Ne.symm hne)).trans (Below.heap_setCell _ _ _ _ (Ne.symm hne)))⟩
        have cm6 : w6.cell? ⟨bm, 0, none⟩ = some (.int .i64 n) := by rw [hw6]; go_simp
        have cs6 : w6.cell? ⟨bm, 1, none⟩ = some (.slice a4 m4 c4) := by rw [hw6]; go_simp
        have fm6 : w6.frozen? ⟨bm, 0, none⟩ = false := by rw [hw6]; go_simp
        have fs6 : w6.frozen? ⟨bm, 1, none⟩ = false := by rw [hw6]; go_simp
        have hw6s : bm < w6.heap.size := by rw [hw6]; simpa [World.setCell] using hw5
        clear hw6 I5 xT r5 cm5 cs5 fm5 fs5 hw5 X0 X1
        refine (at_ring w6 b n _ i r6).mono ?_
        rintro e w7 ⟨rfl, r7, g7⟩
        have x7 := x6.grownRow g7 hbs
        have blk : w7.heap[bm]? = w6.heap[bm]? := g7.block bm hw6s (by simp; omega)
        have cm7 : w7.cell? ⟨bm, 0, none⟩ = some (.int .i64 n) := (World.cell?_of_block (w := w6) blk).trans cm6
        have cs7 : w7.cell? ⟨bm, 1, none⟩ = some (.slice a4 m4 c4) := (World.cell?_of_block (w := w6) blk).trans cs6
        have fm7 : w7.frozen? ⟨bm, 0, none⟩ = false := (World.frozen?_of_block (w := w6) blk).trans fm6
        have fs7 : w7.frozen? ⟨bm, 1, none⟩ = false := (World.frozen?_of_block (w := w6) blk).trans fs6
        have I7 := I6.grown g7 ab4
        have hw7 : bm < w7.heap.size := Nat.lt_of_lt_of_le hw6s g7.size
        clear cm6 cs6 fm6 fs6 I6 r6 x6 g7 blk hw6s
        go_wp2_with fail
        refine (at_ref w7 _ n _ i ⟨_, rfl, I7⟩).mono ?_
        rintro e w8 ⟨rfl, x8⟩
        have y8 := x7.trans x8
        have r8 := r7.ext x8
        have I8 := I7.ext x8
        have cm8 := x8.cell_some cm7
        have cs8 := x8.cell_some cs7
        have fm8 : w8.frozen? ⟨bm, 0, none⟩ = false := (x8.frozen hw7).trans fm7
        have fs8 : w8.frozen? ⟨bm, 1, none⟩ = false := (x8.frozen hw7).trans fs7
        have hw8 : bm < w8.heap.size := Nat.lt_of_lt_of_le hw7 x8.size
        clear cm7 cs7 fm7 fs7 I7 r7 x7 x8 hw7
        go_wp2_with fail
        have hm4 := I8.cells.1
        subst hm4
        have hfit8 : ((stepL n L x y).length : Int) ≤ n := by obtain ⟨f, xs, hh⟩ := r8; exact hh.fit
        generalize stepL n L x y = M at *
        refine region_held none [(0, true), (1, true), (2, true), (3, true), (4, true), (5, true), (6, true), (7, true), (8, true), (9, true), (10, true), (11, true), (12, true), (13, true), (14, true), (15, true), (16, true), (17, true), (18, true), (19, true), (21, true), (22, true), (20, false), (23, false), (24, true), (25, true), (26, true), (27, true), (29, true), (30, true), (31, true), (28, false), (32, true), (33, true), (34, true), (35, true), (37, true), (38, true), (39, true), (40, true), (41, true), (42, true), (36, false), (43, true), (44, true), (45, true), (46, true), (47, true), (49, true), (50, true), (48, false), (51, false), (52, true), (53, true)] [] (by kernel_rfl) (by kernel_rfl) (fun _ _ d _ _ h => by cases d <;> exact h) (fun W9 hW9 => ?_)
        simp only [pick, pickF, List.getElem?_cons_zero, List.getElem?_cons_succ]
        have xd : Ext w8 W9 := hW9 ▸ Ext.drew w8
        have y9 := y8.trans xd
        have r9 := r8.ext xd
        have I9 := I8.ext xd
        have cm9 := xd.cell_some cm8
        have cs9 := xd.cell_some cs8
        have fm9 : W9.frozen? ⟨bm, 0, none⟩ = false := (xd.frozen hw8).trans fm8
        have fs9 : W9.frozen? ⟨bm, 1, none⟩ = false := (xd.frozen hw8).trans fs8
        have hw9 : bm < W9.heap.size := Nat.lt_of_lt_of_le hw8 xd.size
        clear hW9 xd y8 r8 I8 cm8 cs8 fm8 fs8 hw8
        have q0 : ∀ w1, Gr none W9 w1 → w1.cell? _ = _ := fun w1 h => h.cell_some cm9 (by simp)
        have q1 : ∀ w1, Gr none W9 w1 → w1.cell? _ = _ := fun w1 h => h.cell_some cs9 (by simp)
        have hgr := Gr.refl none W9
        iterate 22
          refine held_yesG hgr _ rfl (fun w1 hw1 => by unfold Oper.quietAt; go_simp; rfl) ?_
          simp only [Act.put, List.setIfInBounds_toArray, List.set_cons_zero, List.set_cons_succ]
        refine held_stepG rfl (fun K hK => ?_)
        go_simp
        refine (all_ring W9 b n _ r9).mono ?_
        rintro e w10 ⟨v10, rfl, o10, x10⟩
        obtain ⟨a10, c10, rfl, _⟩ := own_slice o10
        refine hK _ _ (x10.gr _) ?_
        try simp only [Act.put, List.setIfInBounds_toArray, List.set_cons_zero, List.set_cons_succ]
        clear hK K
        refine held_stepG rfl (fun K hK => ?_)
        go_simp
        refine (same_ints w10 _ _ _ _ (IntsV.of_own o10 (by omega)).ints (I9.ext x10).ints).mono ?_
        rintro e w11 ⟨rfl, x11⟩
        clear o10
        have x11 := x10.trans x11
        refine hK _ _ (x11.gr _) ?_
        try simp only [Act.put, List.setIfInBounds_toArray, List.set_cons_zero, List.set_cons_succ]
        clear hK K x10
        iterate 7
          refine held_yesG (x11.gr _) _ rfl (fun w1 hw1 => by unfold Oper.quietAt; go_simp; rfl) ?_
          simp only [Act.put, List.setIfInBounds_toArray, List.set_cons_zero, List.set_cons_succ]
        refine held_stepG rfl (fun K hK => ?_)
        go_simp
        refine (len_ring w11 b n _ (r9.ext x11)).mono ?_
        rintro e w12 ⟨rfl, rfl⟩
        refine hK _ _ (x11.gr _) ?_
        try simp only [Act.put, List.setIfInBounds_toArray, List.set_cons_zero, List.set_cons_succ]
        clear hK K
        iterate 9
          refine held_yesG (x11.gr _) _ rfl (fun w1 hw1 => by unfold Oper.quietAt; go_simp; rfl) ?_
          simp only [Act.put, List.setIfInBounds_toArray, List.set_cons_zero, List.set_cons_succ]
        refine held_yesG (x11.gr _) (.int .i64 (n - M.length)) rfl (fun w1 hw1 => by unfold Oper.quietAt; go_simp; exact IntWalk.i64_in _ (by omega)) ?_
        simp only [Act.put, List.setIfInBounds_toArray, List.set_cons_zero, List.set_cons_succ]
        refine held_stepG rfl (fun K hK => ?_)
        go_simp
        refine (room_ring w12 b n _ (r9.ext x11)).mono ?_
        rintro e w13 ⟨rfl, rfl⟩
        refine hK _ _ (x11.dr.gr _) ?_
        try simp only [Act.put, List.setIfInBounds_toArray, List.set_cons_zero, List.set_cons_succ]
        clear hK K
        iterate 7
          refine held_yesG (x11.dr.gr _) _ rfl (fun w1 hw1 => by unfold Oper.quietAt; go_simp; rfl) ?_
          simp only [Act.put, List.setIfInBounds_toArray, List.set_cons_zero, List.set_cons_succ]
        refine held_stepG rfl (fun K hK => ?_)
        go_simp
        refine (find_ring _ b n _ i (r9.ext x11.dr)).mono ?_
        rintro e w14 ⟨rfl, x14⟩
        have x14 := x11.dr.trans x14
        refine hK _ _ (x14.gr _) ?_
        try simp only [Act.put, List.setIfInBounds_toArray, List.set_cons_zero, List.set_cons_succ]
        clear hK K x11
        refine held_stepG rfl (fun K hK => ?_)
        go_simp
        refine (find_ref w14 _ n _ i ⟨_, rfl, I9.ext x14⟩).mono ?_
        rintro e w15 ⟨rfl, x15⟩
        have x15 := x14.trans x15
        refine hK _ _ (x15.gr _) ?_
        try simp only [Act.put, List.setIfInBounds_toArray, List.set_cons_zero, List.set_cons_succ]
        clear hK K x14
        iterate 2
          refine held_yesG (x15.gr _) _ rfl (fun w1 hw1 => by unfold Oper.quietAt; go_simp; rfl) ?_
          simp only [Act.put, List.setIfInBounds_toArray, List.set_cons_zero, List.set_cons_succ]
        refine held_nil ?_
        go_wp2_with fail
        go_roundw
        case rel =>
          refine ⟨M, k + 1, by go_num, by omega, _, r9.ext x15, x15.cell_some cm9, x15.cell_some cs9, (x15.frozen hw9).trans fm9, (x15.frozen hw9).trans fs9, I9.ext x15, ab4, abm4, y9.trans x15, hbs, Nat.lt_of_lt_of_le hw9 x15.size, hbb⟩
        case measure => simp [intOf] <;> omega
    · have hx : Ext w wr := by obtain ⟨s, h⟩ := hI; exact h.2.2.2.2.2.2.2.2.1
      clear hI
      go_wp2_with fail
      refine (awake_any _).mono ?_
      rintro e w4 ⟨rfl, y4⟩
      go_wp2_with fail
      go_ret
      exact ⟨rfl, hx.trans y4⟩

end Go.Proofs.Ytdkblgbmbjagfaa
