/- What is taken and given back: the walk. -/
import Derived.Test.YtnldfglgdchinaaP
import Derived.Test.YtnldfglgdchinaaO
namespace Go.Proofs.Ytnldfglgdchinaa
set_option linter.unusedSimpArgs false
set_option linter.unusedVariables false
open Go.RowKit

/-- The cells of a slice of deeds: kind, number, whether it goes back. -/
def ActsAt (w : World) (a : Option Addr) (l : List (Int × Int × Bool)) : Prop :=
  l = [] ∨ ∃ g o, a = some ⟨g, o, none⟩ ∧ ∀ j (h : j < l.length), w.cell? ⟨g, o + j * 3, none⟩ = some (.int .u8 l[j].1) ∧ w.cell? ⟨g, o + j * 3 + 1, none⟩ = some (.int .u8 l[j].2.1) ∧ w.cell? ⟨g, o + j * 3 + 2, none⟩ = some (.bool l[j].2.2) ∧
    0 ≤ l[j].1 ∧ l[j].1 ≤ 255 ∧ 0 ≤ l[j].2.1 ∧ l[j].2.1 ≤ 255

theorem ActsAt.get {w : World} {a : Option Addr} {l : List (Int × Int × Bool)} (h : ActsAt w a l) {j : Nat} (hj : j < l.length) :
    ∃ g o x n bk, a = some ⟨g, o, none⟩ ∧ l[j] = (x, n, bk) ∧ (0 ≤ x ∧ x ≤ 255) ∧ (0 ≤ n ∧ n ≤ 255) ∧ w.cell? ⟨g, o + j * 3, none⟩ = some (.int .u8 x) ∧ w.cell? ⟨g, o + j * 3 + 1, none⟩ = some (.int .u8 n) ∧ w.cell? ⟨g, o + j * 3 + 2, none⟩ = some (.bool bk) := by
  rcases h with rfl | ⟨g, o, ha, hc⟩
  · simp at hj
  · obtain ⟨h1, h2, h3, h4, h5, h6, h7⟩ := hc j hj
    exact ⟨g, o, _, _, _, ha, rfl, ⟨h4, h5⟩, ⟨h6, h7⟩, h1, h2, h3⟩

theorem Box.put {w : World} {b : Nat} {s : S} (h : Box w b s) (c a0 a1 a2 a3 a4 a5 : Int) : Box ((((((((w).setCell ⟨b, 0, none⟩ (.int .i64 c)).setCell ⟨b, 1, none⟩ (.int .i64 a0)).setCell ⟨b, 2, none⟩ (.int .i64 a1)).setCell ⟨b, 3, none⟩ (.int .i64 a2)).setCell ⟨b, 4, none⟩ (.int .i64 a3)).setCell ⟨b, 5, none⟩ (.int .i64 a4)).setCell ⟨b, 6, none⟩ (.int .i64 a5)) b ⟨c, a0, a1, a2, a3, a4, a5⟩ := by
  obtain ⟨⟨c0, c1, c2, c3, c4, c5, c6⟩, ⟨f0, f1, f2, f3, f4, f5, f6⟩⟩ := h
  exact ⟨⟨by go_simp, by go_simp, by go_simp, by go_simp, by go_simp, by go_simp, by go_simp⟩, ⟨by go_simp, by go_simp, by go_simp, by go_simp, by go_simp, by go_simp, by go_simp⟩⟩

theorem cell_set {w : World} {a : Addr} {b o : Nat} {u v : Value} (h : w.cell? a = some v) (hne : a.block ≠ b) : (w.setCell ⟨b, o, none⟩ u).cell? a = some v :=
  (World.cell?_of_block (w := w) (Below.heap_setCell _ _ _ _ hne)).trans h

theorem kind_in {x : Int} (h : 0 ≤ x ∧ x ≤ 255) : inB (x % 6) 0 5 = true := by simp [inB]; omega

theorem new_may (m : Int) (h : 1 ≤ m ∧ m ≤ 4096) : S.check ⟨m, 0, 0, 0, 0, 0, 0⟩ = 0 := good_of (by simp) h (by simp; omega)

set_option maxRecDepth 100000 in
set_option maxHeartbeats 20000000 in
theorem back_walk (w : World) (a : Option Addr) (c : Nat) (r : Int) (l : List (Int × Int × Bool)) (hr : 0 ≤ r ∧ r ≤ 65535) (hA : Hid (ActsAt w a l)) (k0 n0 : Int) (bk : Bool) (hk0 : 0 ≤ k0 ∧ k0 ≤ 255) :
    Calls Try.prog 6 #[.int .u16 r, .slice a l.length c, .agg #[.int .u8 k0, .int .u8 n0, .bool bk]] w fun e w' => e = .returned (.bool true) ∧ Ext w w' := by
  by_cases hl : (60 : Int) < l.length
  case' pos =>
    go_enter Try.func6, Try.ntmps6
    go_wp2_with fail
    refine (awake_any _).mono ?_
    rintro e w1 ⟨rfl, x1⟩
    go_wp2_with fail
    go_ret
    exact ⟨rfl, (Ext.alloc _ _).trans x1⟩
  case' neg =>
    obtain ⟨m, hmm⟩ : ∃ m, m = 1 + r % 4096 := ⟨_, rfl⟩
    have hm : 1 ≤ m ∧ m ≤ 4096 := by omega
    have NN : Hid (∀ w, Calls Try.prog 16 #[.int .i64 (1 + r % 4096)] w fun e w' => e = .returned (.tuple #[stV m 0 0 0 0 0 0, .int .i64 0]) ∧ Ext w w') := Lib.hid (by
      intro w
      have h := new_any w m
      rw [if_pos hm, if_pos hm] at h
      rw [← hmm]
      exact h)
    have HM := Lib.hid hm
    clear hmm hm
    go_enter Try.func6, Try.ntmps6
    go_wp2_with fail
    refine (NN.out _).mono ?_
    rintro e w1 ⟨rfl, x1⟩
    have x0 := (Ext.alloc w (.cells #[.int .u8 k0, .int .u8 n0, .bool bk] 50)).trans x1
    have d0 : w1.cell? ⟨w.heap.size, 0, none⟩ = some (.int .u8 k0) := x1.cell_some (by simp)
    clear x1
    have hg : w.heap.size < w1.heap.size := lt_of_cell d0
    go_wp2_with fail
    have B7 : Box (w1.alloc (.cells #[.int .i64 m, .int .i64 0, .int .i64 0, .int .i64 0, .int .i64 0, .int .i64 0, .int .i64 0] 26)) w1.heap.size ⟨m, 0, 0, 0, 0, 0, 0⟩ := Box.new w1 26 m 0 0 0 0 0 0
    have d0 := (Ext.alloc w1 (.cells #[.int .i64 m, .int .i64 0, .int .i64 0, .int .i64 0, .int .i64 0, .int .i64 0, .int .i64 0] 26)).cell_some d0
    have x0 := x0.al (.cells #[.int .i64 m, .int .i64 0, .int .i64 0, .int .i64 0, .int .i64 0, .int .i64 0, .int .i64 0] 26)
    generalize w1.alloc (.cells #[.int .i64 m, .int .i64 0, .int .i64 0, .int .i64 0, .int .i64 0, .int .i64 0, .int .i64 0] 26) = w2 at *
    generalize w1.heap.size = b at *
    go_loopw [9] (fun i wr => ∃ (j : Nat) (s : S), i = .int .i64 j ∧ j ≤ l.length ∧ Box wr b s ∧ s.check = 0 ∧ wr.cell? ⟨w.heap.size, 0, none⟩ = some (.int .u8 k0) ∧ Ext w wr) (fun i _ => l.length - (intOf i).toNat)
    case atStart => exact ⟨0, ⟨m, 0, 0, 0, 0, 0, 0⟩, rfl, by omega, B7, new_may m HM.out, d0, x0⟩
    case round =>
      clear B7 d0 x0
      obtain ⟨j, s, rfl, hj, hb, hz, d0, hx⟩ := hrel
      by_cases hlt : j < l.length
      · have hlt2 : (j : Int) < l.length := by omega
        obtain ⟨g, o, x, n, bk', rfl, hv, hx0, hn0, hc1, hc2, hc3⟩ := hA.out.get hlt
        have hgw : g < w.heap.size := lt_of_cell hc1
        have e1 := hx.cell_some hc1
        have e2 := hx.cell_some hc2
        clear hc1 hc2 hc3 hv
        obtain ⟨hx1, hx2⟩ := hx0
        obtain ⟨hn1, hn2⟩ := hn0
        have BQ := Lib.hid hb
        have HZ := Lib.hid hz
        clear hb hz
        go_wp2_with fail
        refine region_held (some b) [(1, true), (2, true), (3, true), (4, true), (5, true), (6, true), (7, true), (8, true), (9, true), (10, true), (11, true), (12, true), (13, true), (0, false), (14, false), (15, true), (16, true), (17, true), (18, false)] [] (by kernel_rfl) (by kernel_rfl) (fun _ _ d _ _ h => by cases d <;> exact h) (fun W hW => ?_)
        simp only [pick, pickF, List.getElem?_cons_zero, List.getElem?_cons_succ]
        have xW : Ext wr W := hW ▸ Ext.drew _
        have hx := hx.trans xW
        have d0 := xW.cell_some d0
        have e1 := xW.cell_some e1
        have e2 := xW.cell_some e2
        have BQ := Lib.hid (BQ.out.ext xW)
        clear hW xW
        have q1 : ∀ w1, Gr (some b) W w1 → w1.cell? _ = _ := fun w1 h => h.cell_some e1 (by simp; omega)
        have q2 : ∀ w1, Gr (some b) W w1 → w1.cell? _ = _ := fun w1 h => h.cell_some e2 (by simp; omega)
        have hgr := Gr.refl (some b) W
        iterate 13
          refine held_yes hgr _ rfl (fun w1 hw1 => by unfold Oper.quietAt; go_simp; rfl) ?_
          simp only [Act.put, List.setIfInBounds_toArray, List.set_cons_zero, List.set_cons_succ]
        clear q1 q2 e1 e2
        obtain ⟨c, a0, a1, a2, a3, a4, a5⟩ := s
        obtain ⟨c0, c1, c2, c3, c4, c5, c6⟩ := BQ.out.cells
        refine held_step rfl (fun K hK => ?_)
        go_simp
        refine hK _ _ hgr ?_
        clear hK K
        refine held_step rfl (fun K hK => ?_)
        go_simp
        have hmod : IntKind.i64.wrap (x.tmod 6) = x % 6 := by rw [Int.tmod_eq_emod_of_nonneg hx1]; exact IntWalk.i64_in _ (by omega)
        have hwn : IntKind.i64.wrap n = n := IntWalk.i64_in _ (by omega)
        rw [hmod, hwn]
        clear hmod hwn
        refine (take_any W c a0 a1 a2 a3 a4 a5 (x % 6) n).mono ?_
        rintro e w3 ⟨rfl, x3⟩
        refine hK _ _ (x3.gr _) ?_
        clear hK K c0 c1 c2 c3 c4 c5 c6
        have hx := hx.trans x3
        have d0 := x3.cell_some d0
        have BQ := Lib.hid (BQ.out.ext x3)
        have hgr := x3.gr (some b)
        have hgood : (S.take ⟨c, a0, a1, a2, a3, a4, a5⟩ (x % 6) n).check = 0 := by
          obtain ⟨_, t2, t3⟩ := take_law ⟨c, a0, a1, a2, a3, a4, a5⟩ (x % 6) n HZ.out (kind_in ⟨hx1, hx2⟩) hn1
          by_cases hle : S.sum ⟨c, a0, a1, a2, a3, a4, a5⟩ + n * costI (x % 6) ≤ c
          · rw [(t2 hle).1]; exact (t2 hle).2
          · rw [t3 hle]; exact HZ.out
        generalize S.take ⟨c, a0, a1, a2, a3, a4, a5⟩ (x % 6) n = s' at *
        obtain ⟨c', b0, b1, b2, b3, b4, b5⟩ := s'
        iterate 3
          refine held_yes hgr _ rfl (fun w1 hw1 => by unfold Oper.quietAt; go_simp; rfl) ?_
          simp only [Act.put, List.setIfInBounds_toArray, List.set_cons_zero, List.set_cons_succ]
        obtain ⟨c0, c1, c2, c3, c4, c5, c6⟩ := BQ.out.cells
        obtain ⟨f0, f1, f2, f3, f4, f5, f6⟩ := BQ.out.free
        refine held_step rfl (fun K hK => ?_)
        go_simp
        have hbw : w.heap.size ≤ b := by omega
        have BQ := Lib.hid (BQ.out.put c' b0 b1 b2 b3 b4 b5)
        have hx : Ext w ((((((((w3).setCell ⟨b, 0, none⟩ (.int .i64 c')).setCell ⟨b, 1, none⟩ (.int .i64 b0)).setCell ⟨b, 2, none⟩ (.int .i64 b1)).setCell ⟨b, 3, none⟩ (.int .i64 b2)).setCell ⟨b, 4, none⟩ (.int .i64 b3)).setCell ⟨b, 5, none⟩ (.int .i64 b4)).setCell ⟨b, 6, none⟩ (.int .i64 b5)) := Ext.set (Ext.set (Ext.set (Ext.set (Ext.set (Ext.set (Ext.set hx hbw _) hbw _) hbw _) hbw _) hbw _) hbw _) hbw _
        have hgr : Gr (some b) W ((((((((w3).setCell ⟨b, 0, none⟩ (.int .i64 c')).setCell ⟨b, 1, none⟩ (.int .i64 b0)).setCell ⟨b, 2, none⟩ (.int .i64 b1)).setCell ⟨b, 3, none⟩ (.int .i64 b2)).setCell ⟨b, 4, none⟩ (.int .i64 b3)).setCell ⟨b, 5, none⟩ (.int .i64 b4)).setCell ⟨b, 6, none⟩ (.int .i64 b5)) := (((((((hgr.set _).set _).set _).set _).set _).set _).set _)
        have d0 : World.cell? ((((((((w3).setCell ⟨b, 0, none⟩ (.int .i64 c')).setCell ⟨b, 1, none⟩ (.int .i64 b0)).setCell ⟨b, 2, none⟩ (.int .i64 b1)).setCell ⟨b, 3, none⟩ (.int .i64 b2)).setCell ⟨b, 4, none⟩ (.int .i64 b3)).setCell ⟨b, 5, none⟩ (.int .i64 b4)).setCell ⟨b, 6, none⟩ (.int .i64 b5)) ⟨w.heap.size, 0, none⟩ = some (.int .u8 k0) := by
          have hne : w.heap.size ≠ b := by omega
          exact cell_set (cell_set (cell_set (cell_set (cell_set (cell_set (cell_set d0 hne) hne) hne) hne) hne) hne) hne
        generalize (((((((w3).setCell ⟨b, 0, none⟩ (.int .i64 c')).setCell ⟨b, 1, none⟩ (.int .i64 b0)).setCell ⟨b, 2, none⟩ (.int .i64 b1)).setCell ⟨b, 3, none⟩ (.int .i64 b2)).setCell ⟨b, 4, none⟩ (.int .i64 b3)).setCell ⟨b, 5, none⟩ (.int .i64 b4)).setCell ⟨b, 6, none⟩ (.int .i64 b5) = w4 at *
        refine hK _ _ hgr ?_
        clear hK K c0 c1 c2 c3 c4 c5 c6 f0 f1 f2 f3 f4 f5 f6
        refine held_nil ?_
        go_wp2_with fail
        exact ⟨⟨j + 1, _, rfl, by omega, BQ.out, hgood, d0, hx⟩, by simp [intOf]; omega⟩
      · have hlt2 : ¬ (j : Int) < l.length := by omega
        have BQ := Lib.hid hb
        have HZ := Lib.hid hz
        obtain ⟨hf1, hf2, hf3, hf4, hf5, hf6, hf7, hf8⟩ := fits_law s (k0 % 6) hz (kind_in hk0)
        obtain ⟨c, a0, a1, a2, a3, a4, a5⟩ := s
        obtain ⟨k, hk⟩ : ∃ k, k = k0 % 6 := ⟨_, rfl⟩
        rw [← hk] at hf1 hf2 hf3 hf4 hf5 hf6 hf7 hf8
        obtain ⟨f, hf⟩ : ∃ f, f = S.fits ⟨c, a0, a1, a2, a3, a4, a5⟩ k 4096 := ⟨_, rfl⟩
        rw [← hf] at hf1 hf2 hf3 hf4 hf5 hf6 hf7 hf8
        obtain ⟨⟨X, X0, X1, X2, X3, X4, X5⟩, hX⟩ : ∃ x : S, x = S.take ⟨c, a0, a1, a2, a3, a4, a5⟩ k f := ⟨_, rfl⟩
        obtain ⟨⟨Z, Z0, Z1, Z2, Z3, Z4, Z5⟩, hZ⟩ : ∃ x : S, x = S.take ⟨c, a0, a1, a2, a3, a4, a5⟩ k (f + 1) := ⟨_, rfl⟩
        rw [← hX] at hf5 hf6 hf7 hf8
        have M1 : Hid (∀ w, Calls Try.prog 13 #[stV c a0 a1 a2 a3 a4 a5, .int .i64 k, .int .i64 4096] w fun e w' => e = .returned (.int .i64 f) ∧ Ext w w') := Lib.hid (by
          intro w
          have h := fits_any w c a0 a1 a2 a3 a4 a5 k 4096
          rw [← hf] at h
          exact h)
        have M2 : Hid (∀ w, Calls Try.prog 7 #[stV c a0 a1 a2 a3 a4 a5, .int .i64 k, .int .i64 f] w fun e w' => e = .returned (.tuple #[stV X X0 X1 X2 X3 X4 X5, .bool true]) ∧ Ext w w') := Lib.hid (by
          intro w
          have h := take_any w c a0 a1 a2 a3 a4 a5 k f
          rw [← hX, hf3] at h
          exact h)
        have M3 : Hid (∀ w, Calls Try.prog 7 #[stV c a0 a1 a2 a3 a4 a5, .int .i64 k, .int .i64 (f + 1)] w fun e w' => e = .returned (.tuple #[stV Z Z0 Z1 Z2 Z3 Z4 Z5, .bool false]) ∧ Ext w w') := Lib.hid (by
          intro w
          have h := take_any w c a0 a1 a2 a3 a4 a5 k (f + 1)
          rw [← hZ, hf4] at h
          exact h)
        have M4 : Hid (∀ w, Calls Try.prog 9 #[stV X X0 X1 X2 X3 X4 X5, .int .i64 k, .int .i64 f] w fun e w' => e = .returned (.tuple #[stV c a0 a1 a2 a3 a4 a5, .bool true]) ∧ Ext w w') := Lib.hid (by
          intro w
          have h := give_any w X X0 X1 X2 X3 X4 X5 k f
          rw [hf6, hf5] at h
          exact h)
        have M5 : Hid (∀ w, Calls Try.prog 13 #[stV X X0 X1 X2 X3 X4 X5, .int .i64 k, .int .i64 1] w fun e w' => e = .returned (.int .i64 0) ∧ Ext w w') := Lib.hid (by
          intro w
          have h := fits_any w X X0 X1 X2 X3 X4 X5 k 1
          rw [hf7] at h
          exact h)
        have hkk : 0 ≤ k0 ∧ k0 ≤ 255 := hk0
        obtain ⟨hk1, hk2⟩ := hk0
        have HK := Lib.hid hk
        have B7 := Lib.hid hb
        obtain ⟨c0, c1, c2, c3, c4, c5, c6⟩ := hb.cells
        clear hb hz hf hX hZ hf3 hf4 hf5 hf6 hf7
        go_wp2_with fail
        rw [← hk]
        clear hk hk1 hk2 hkk
        refine (M1.out _).mono ?_
        rintro e w3 ⟨rfl, y⟩
        have B7 := Lib.hid (B7.out.ext y)
        have hx := hx.trans y
        clear y c0 c1 c2 c3 c4 c5 c6 d0
        obtain ⟨c0, c1, c2, c3, c4, c5, c6⟩ := B7.out.cells
        have hwf : IntKind.i64.wrap (f + 1) = f + 1 := IntWalk.i64_in _ (by omega)
        go_wp2_with fail
        refine (M2.out _).mono ?_
        rintro e w12 ⟨rfl, y⟩
        have B7 := Lib.hid (B7.out.ext y)
        have hx := hx.trans y
        clear y
        clear c0 c1 c2 c3 c4 c5 c6
        obtain ⟨c0, c1, c2, c3, c4, c5, c6⟩ := B7.out.cells
        have c0 := (Ext.alloc w12 (.cells #[.int .i64 X, .int .i64 X0, .int .i64 X1, .int .i64 X2, .int .i64 X3, .int .i64 X4, .int .i64 X5] 26)).cell_some c0
        have c1 := (Ext.alloc w12 (.cells #[.int .i64 X, .int .i64 X0, .int .i64 X1, .int .i64 X2, .int .i64 X3, .int .i64 X4, .int .i64 X5] 26)).cell_some c1
        have c2 := (Ext.alloc w12 (.cells #[.int .i64 X, .int .i64 X0, .int .i64 X1, .int .i64 X2, .int .i64 X3, .int .i64 X4, .int .i64 X5] 26)).cell_some c2
        have c3 := (Ext.alloc w12 (.cells #[.int .i64 X, .int .i64 X0, .int .i64 X1, .int .i64 X2, .int .i64 X3, .int .i64 X4, .int .i64 X5] 26)).cell_some c3
        have c4 := (Ext.alloc w12 (.cells #[.int .i64 X, .int .i64 X0, .int .i64 X1, .int .i64 X2, .int .i64 X3, .int .i64 X4, .int .i64 X5] 26)).cell_some c4
        have c5 := (Ext.alloc w12 (.cells #[.int .i64 X, .int .i64 X0, .int .i64 X1, .int .i64 X2, .int .i64 X3, .int .i64 X4, .int .i64 X5] 26)).cell_some c5
        have c6 := (Ext.alloc w12 (.cells #[.int .i64 X, .int .i64 X0, .int .i64 X1, .int .i64 X2, .int .i64 X3, .int .i64 X4, .int .i64 X5] 26)).cell_some c6
        go_wp2_with fail
        obtain ⟨v12, hv⟩ : ∃ v, v = w12.alloc (.cells #[.int .i64 X, .int .i64 X0, .int .i64 X1, .int .i64 X2, .int .i64 X3, .int .i64 X4, .int .i64 X5] 26) := ⟨_, rfl⟩
        try rw [← hv]
        have hx : Ext w v12 := hv ▸ hx.al _
        have B12 : Hid (Box v12 w12.heap.size ⟨X, X0, X1, X2, X3, X4, X5⟩) := Lib.hid (hv ▸ Box.new w12 26 X X0 X1 X2 X3 X4 X5)
        have B7 : Hid (Box v12 _ _) := Lib.hid (B7.out.ext (hv ▸ Ext.alloc w12 _))
        generalize w12.heap.size = b12 at *
        clear hv
        clear c0 c1 c2 c3 c4 c5 c6
        refine (M3.out _).mono ?_
        rintro e w14 ⟨rfl, y⟩
        have B7 := Lib.hid (B7.out.ext y)
        have B12 := Lib.hid (B12.out.ext y)
        have hx := hx.trans y
        clear y
        obtain ⟨c0, c1, c2, c3, c4, c5, c6⟩ := B12.out.cells
        have c0 := (Ext.alloc w14 (.cells #[.int .i64 Z, .int .i64 Z0, .int .i64 Z1, .int .i64 Z2, .int .i64 Z3, .int .i64 Z4, .int .i64 Z5] 26)).cell_some c0
        have c1 := (Ext.alloc w14 (.cells #[.int .i64 Z, .int .i64 Z0, .int .i64 Z1, .int .i64 Z2, .int .i64 Z3, .int .i64 Z4, .int .i64 Z5] 26)).cell_some c1
        have c2 := (Ext.alloc w14 (.cells #[.int .i64 Z, .int .i64 Z0, .int .i64 Z1, .int .i64 Z2, .int .i64 Z3, .int .i64 Z4, .int .i64 Z5] 26)).cell_some c2
        have c3 := (Ext.alloc w14 (.cells #[.int .i64 Z, .int .i64 Z0, .int .i64 Z1, .int .i64 Z2, .int .i64 Z3, .int .i64 Z4, .int .i64 Z5] 26)).cell_some c3
        have c4 := (Ext.alloc w14 (.cells #[.int .i64 Z, .int .i64 Z0, .int .i64 Z1, .int .i64 Z2, .int .i64 Z3, .int .i64 Z4, .int .i64 Z5] 26)).cell_some c4
        have c5 := (Ext.alloc w14 (.cells #[.int .i64 Z, .int .i64 Z0, .int .i64 Z1, .int .i64 Z2, .int .i64 Z3, .int .i64 Z4, .int .i64 Z5] 26)).cell_some c5
        have c6 := (Ext.alloc w14 (.cells #[.int .i64 Z, .int .i64 Z0, .int .i64 Z1, .int .i64 Z2, .int .i64 Z3, .int .i64 Z4, .int .i64 Z5] 26)).cell_some c6
        go_wp2_with fail
        obtain ⟨v14, hv⟩ : ∃ v, v = w14.alloc (.cells #[.int .i64 Z, .int .i64 Z0, .int .i64 Z1, .int .i64 Z2, .int .i64 Z3, .int .i64 Z4, .int .i64 Z5] 26) := ⟨_, rfl⟩
        try rw [← hv]
        have hx : Ext w v14 := hv ▸ hx.al _
        have B14 : Hid (Box v14 w14.heap.size ⟨Z, Z0, Z1, Z2, Z3, Z4, Z5⟩) := Lib.hid (hv ▸ Box.new w14 26 Z Z0 Z1 Z2 Z3 Z4 Z5)
        have B7 : Hid (Box v14 _ _) := Lib.hid (B7.out.ext (hv ▸ Ext.alloc w14 _))
        have B12 : Hid (Box v14 _ _) := Lib.hid (B12.out.ext (hv ▸ Ext.alloc w14 _))
        generalize w14.heap.size = b14 at *
        clear hv
        clear c0 c1 c2 c3 c4 c5 c6
        refine (M4.out _).mono ?_
        rintro e w16 ⟨rfl, y⟩
        have B7 := Lib.hid (B7.out.ext y)
        have B12 := Lib.hid (B12.out.ext y)
        have B14 := Lib.hid (B14.out.ext y)
        have hx := hx.trans y
        clear y
        obtain ⟨c0, c1, c2, c3, c4, c5, c6⟩ := B7.out.cells
        obtain ⟨d0, d1, d2, d3, d4, d5, d6⟩ := B12.out.cells
        have c0 := (Ext.alloc w16 (.cells #[.int .i64 c, .int .i64 a0, .int .i64 a1, .int .i64 a2, .int .i64 a3, .int .i64 a4, .int .i64 a5] 26)).cell_some c0
        have c1 := (Ext.alloc w16 (.cells #[.int .i64 c, .int .i64 a0, .int .i64 a1, .int .i64 a2, .int .i64 a3, .int .i64 a4, .int .i64 a5] 26)).cell_some c1
        have c2 := (Ext.alloc w16 (.cells #[.int .i64 c, .int .i64 a0, .int .i64 a1, .int .i64 a2, .int .i64 a3, .int .i64 a4, .int .i64 a5] 26)).cell_some c2
        have c3 := (Ext.alloc w16 (.cells #[.int .i64 c, .int .i64 a0, .int .i64 a1, .int .i64 a2, .int .i64 a3, .int .i64 a4, .int .i64 a5] 26)).cell_some c3
        have c4 := (Ext.alloc w16 (.cells #[.int .i64 c, .int .i64 a0, .int .i64 a1, .int .i64 a2, .int .i64 a3, .int .i64 a4, .int .i64 a5] 26)).cell_some c4
        have c5 := (Ext.alloc w16 (.cells #[.int .i64 c, .int .i64 a0, .int .i64 a1, .int .i64 a2, .int .i64 a3, .int .i64 a4, .int .i64 a5] 26)).cell_some c5
        have c6 := (Ext.alloc w16 (.cells #[.int .i64 c, .int .i64 a0, .int .i64 a1, .int .i64 a2, .int .i64 a3, .int .i64 a4, .int .i64 a5] 26)).cell_some c6
        have d0 := (Ext.alloc w16 (.cells #[.int .i64 c, .int .i64 a0, .int .i64 a1, .int .i64 a2, .int .i64 a3, .int .i64 a4, .int .i64 a5] 26)).cell_some d0
        have d1 := (Ext.alloc w16 (.cells #[.int .i64 c, .int .i64 a0, .int .i64 a1, .int .i64 a2, .int .i64 a3, .int .i64 a4, .int .i64 a5] 26)).cell_some d1
        have d2 := (Ext.alloc w16 (.cells #[.int .i64 c, .int .i64 a0, .int .i64 a1, .int .i64 a2, .int .i64 a3, .int .i64 a4, .int .i64 a5] 26)).cell_some d2
        have d3 := (Ext.alloc w16 (.cells #[.int .i64 c, .int .i64 a0, .int .i64 a1, .int .i64 a2, .int .i64 a3, .int .i64 a4, .int .i64 a5] 26)).cell_some d3
        have d4 := (Ext.alloc w16 (.cells #[.int .i64 c, .int .i64 a0, .int .i64 a1, .int .i64 a2, .int .i64 a3, .int .i64 a4, .int .i64 a5] 26)).cell_some d4
        have d5 := (Ext.alloc w16 (.cells #[.int .i64 c, .int .i64 a0, .int .i64 a1, .int .i64 a2, .int .i64 a3, .int .i64 a4, .int .i64 a5] 26)).cell_some d5
        have d6 := (Ext.alloc w16 (.cells #[.int .i64 c, .int .i64 a0, .int .i64 a1, .int .i64 a2, .int .i64 a3, .int .i64 a4, .int .i64 a5] 26)).cell_some d6
        go_wp2_with fail
        obtain ⟨v16, hv⟩ : ∃ v, v = w16.alloc (.cells #[.int .i64 c, .int .i64 a0, .int .i64 a1, .int .i64 a2, .int .i64 a3, .int .i64 a4, .int .i64 a5] 26) := ⟨_, rfl⟩
        try rw [← hv]
        have hx : Ext w v16 := hv ▸ hx.al _
        have B16 : Hid (Box v16 w16.heap.size ⟨c, a0, a1, a2, a3, a4, a5⟩) := Lib.hid (hv ▸ Box.new w16 26 c a0 a1 a2 a3 a4 a5)
        have B7 : Hid (Box v16 _ _) := Lib.hid (B7.out.ext (hv ▸ Ext.alloc w16 _))
        have B12 : Hid (Box v16 _ _) := Lib.hid (B12.out.ext (hv ▸ Ext.alloc w16 _))
        have B14 : Hid (Box v16 _ _) := Lib.hid (B14.out.ext (hv ▸ Ext.alloc w16 _))
        generalize w16.heap.size = b16 at *
        clear hv
        clear c0 c1 c2 c3 c4 c5 c6
        clear d0 d1 d2 d3 d4 d5 d6
        refine (M5.out _).mono ?_
        rintro e w17 ⟨rfl, y⟩
        have B7 := Lib.hid (B7.out.ext y)
        have B12 := Lib.hid (B12.out.ext y)
        have B14 := Lib.hid (B14.out.ext y)
        have B16 := Lib.hid (B16.out.ext y)
        have hx := hx.trans y
        clear y
        obtain ⟨d0, d1, d2, d3, d4, d5, d6⟩ := B12.out.cells
        go_wp2_with fail
        clear d0 d1 d2 d3 d4 d5 d6
        refine (left_any _ X X0 X1 X2 X3 X4 X5).mono ?_
        rintro e w18 ⟨rfl, y⟩
        have hx := hx.trans y
        clear y
        go_wp2_with fail
        refine (cost_any _ _).mono ?_
        rintro e w19 ⟨rfl, y⟩
        have hx := hx.trans y
        clear y
        go_wp2_with fail
        refine (awake_any _).mono ?_
        rintro e w20 ⟨rfl, y⟩
        have hx := hx.trans y
        clear y
        go_wp2_with fail
        go_ret
        exact ⟨rfl, hx⟩

end Go.Proofs.Ytnldfglgdchinaa
