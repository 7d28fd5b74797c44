/- Whatever is charged, and charged no more: the walk. -/
import Derived.Test.YtnldfglgdchinaaV
namespace Go.Proofs.Ytnldfglgdchinaa
set_option linter.unusedSimpArgs false
set_option linter.unusedVariables false
open Go.RowKit

/-- Block b holds a state's six numbers, and may be written. -/
def Six (w : World) (b : Nat) (s : S) : Prop := ∀ j, j < 6 → w.cell? ⟨b, j, none⟩ = some (.int .i64 (s.get j)) ∧ w.frozen? ⟨b, j, none⟩ = false

theorem Six.ext {w w' : World} {b : Nat} {s : S} (h : Six w b s) (x : Ext w w') : Six w' b s := fun j hj => ⟨x.cell_some (h j hj).1, x.free (lt_of_cell (h j hj).1) (h j hj).2⟩
theorem Six.at {w : World} {b : Nat} {s : S} (h : Six w b s) {k : Int} (hk : inB k 0 5 = true) : w.cell? ⟨b, k.toNat, none⟩ = some (.int .i64 (s.get k)) ∧ w.frozen? ⟨b, k.toNat, none⟩ = false := by
  have hk' := six_cases hk
  have := h k.toNat (by omega)
  rwa [show ((k.toNat : Nat) : Int) = k by omega] at this
theorem Six.cells {w : World} {b : Nat} {s : S} (h : Six w b s) : w.cell? ⟨b, 0, none⟩ = some (.int .i64 s.a0) ∧ w.cell? ⟨b, 1, none⟩ = some (.int .i64 s.a1) ∧ w.cell? ⟨b, 2, none⟩ = some (.int .i64 s.a2) ∧ w.cell? ⟨b, 3, none⟩ = some (.int .i64 s.a3) ∧ w.cell? ⟨b, 4, none⟩ = some (.int .i64 s.a4) ∧ w.cell? ⟨b, 5, none⟩ = some (.int .i64 s.a5) :=
  ⟨(h 0 (by omega)).1, (h 1 (by omega)).1, (h 2 (by omega)).1, (h 3 (by omega)).1, (h 4 (by omega)).1, (h 5 (by omega)).1⟩
theorem Six.seen {w w1 : World} {b : Nat} {s : S} (h : Six w b s) (x : Gr none w w1) : w1.cell? ⟨b, 0, none⟩ = some (.int .i64 s.a0) ∧ w1.cell? ⟨b, 1, none⟩ = some (.int .i64 s.a1) ∧ w1.cell? ⟨b, 2, none⟩ = some (.int .i64 s.a2) ∧ w1.cell? ⟨b, 3, none⟩ = some (.int .i64 s.a3) ∧ w1.cell? ⟨b, 4, none⟩ = some (.int .i64 s.a4) ∧ w1.cell? ⟨b, 5, none⟩ = some (.int .i64 s.a5) := by
  obtain ⟨c0, c1, c2, c3, c4, c5⟩ := h.cells
  exact ⟨x.cell_some c0 (by simp), x.cell_some c1 (by simp), x.cell_some c2 (by simp), x.cell_some c3 (by simp), x.cell_some c4 (by simp), x.cell_some c5 (by simp)⟩
theorem Six.new (w : World) (m : Int) : Six (w.alloc (.cells #[.int .i64 0, .int .i64 0, .int .i64 0, .int .i64 0, .int .i64 0, .int .i64 0] 22)) w.heap.size ⟨m, 0, 0, 0, 0, 0, 0⟩ := by
  intro j hj
  rcases (by omega : j = 0 ∨ j = 1 ∨ j = 2 ∨ j = 3 ∨ j = 4 ∨ j = 5) with rfl | rfl | rfl | rfl | rfl | rfl <;> exact ⟨by simp [S.get], by go_simp⟩
theorem Six.other {w : World} {b : Nat} {s : S} (h : Six w b s) {b' o : Nat} {u : Value} (hne : b ≠ b') : Six (w.setCell ⟨b', o, none⟩ u) b s := fun j hj =>
  ⟨cell_set (h j hj).1 hne, (World.frozen?_of_block (w := w) (Below.heap_setCell _ _ _ _ hne)).trans (h j hj).2⟩
theorem Six.put {w : World} {b : Nat} {s : S} (h : Six w b s) {k : Int} (hk : inB k 0 5 = true) (n : Int) : Six (w.setCell ⟨b, k.toNat, none⟩ (.int .i64 (s.get k + n))) b (s.add k n) := by
  intro j hj
  obtain ⟨h1, h2⟩ := h j hj
  obtain ⟨h3, h4⟩ := h.at hk
  have hk' := six_cases hk
  by_cases he : j = k.toNat
  · subst he
    refine ⟨?_, by go_simp⟩
    have e : (s.add k n).get (k.toNat : Int) = s.get k + n := by
      rcases hk' with rfl | rfl | rfl | rfl | rfl | rfl <;> simp [S.get, S.add]
    rw [e]
    go_simp
  · refine ⟨?_, by go_simp⟩
    have e : (s.add k n).get (j : Int) = s.get j := by
      rcases hk' with rfl | rfl | rfl | rfl | rfl | rfl <;> rcases (by omega : j = 0 ∨ j = 1 ∨ j = 2 ∨ j = 3 ∨ j = 4 ∨ j = 5) with rfl | rfl | rfl | rfl | rfl | rfl <;> simp [S.get, S.add] at he ⊢
    rw [e]
    go_simp

theorem get_nn {s : S} (h : s.check = 0) {k : Int} : 0 ≤ s.get k ∧ s.get k ≤ 4096 := by
  obtain ⟨h0, hc1, hc2, hs⟩ := good_parts h
  unfold S.get
  split <;> (try split) <;> (try split) <;> (try split) <;> (try split) <;> omega

/-- What the first j kinds have charged. -/
def sumK (s : S) (j : Nat) : Int := psum s.a0 s.a1 s.a2 s.a3 s.a4 s.a5 j
theorem sumK_next (s : S) {j : Nat} (h : j < 6) : sumK s (j + 1) = sumK s j + s.get j * costI j := by
  rcases (by omega : j = 0 ∨ j = 1 ∨ j = 2 ∨ j = 3 ∨ j = 4 ∨ j = 5) with rfl | rfl | rfl | rfl | rfl | rfl <;> simp [sumK, psum, S.get, costI] <;> omega
theorem sumK_bounds {s : S} (h : s.check = 0) (j : Nat) (hj : j ≤ 6) : 0 ≤ sumK s j ∧ sumK s j ≤ 4096 := by
  obtain ⟨h0, hc1, hc2, hs⟩ := good_parts h
  rcases (by omega : j = 0 ∨ j = 1 ∨ j = 2 ∨ j = 3 ∨ j = 4 ∨ j = 5 ∨ j = 6) with rfl | rfl | rfl | rfl | rfl | rfl | rfl <;> simp [sumK, psum] <;> omega
theorem sumK_all (s : S) : sumK s 6 = s.sum := rfl

set_option maxRecDepth 100000 in
set_option maxHeartbeats 20000000 in
theorem keeps_walk (w : World) (a : Option Addr) (c : Nat) (r : Int) (l : List (Int × Int × Bool)) (hr : 0 ≤ r ∧ r ≤ 65535) (hA : Hid (ActsAt w a l)) :
    Calls Try.prog 5 #[.int .u16 r, .slice a l.length c] w fun e w' => e = .returned (.bool true) ∧ Ext w w' := by
  by_cases hl : (120 : Int) < l.length
  case' pos =>
    go_enter Try.func5, Try.ntmps5
    go_wp2_with fail
    refine (awake_any _).mono ?_
    rintro e w1 ⟨rfl, x1⟩
    go_wp2_with fail
    go_ret
    exact ⟨rfl, x1⟩
  case' neg =>
    obtain ⟨m, hmm⟩ : ∃ m, m = 1 + r % 4096 := ⟨_, rfl⟩
    have hm : 1 ≤ m ∧ m ≤ 4096 := by omega
    have NN : Hid (∀ w, Calls Try.prog 16 #[.int .i64 m] w fun e w' => e = .returned (.tuple #[stV m 0 0 0 0 0 0, .int .i64 0]) ∧ Ext w w') := Lib.hid (by
      intro w
      have h := new_any w m
      rw [if_pos hm, if_pos hm] at h
      exact h)
    have HM := Lib.hid hm
    go_enter Try.func5, Try.ntmps5
    go_wp2_with fail
    rw [← hmm]
    clear hmm hm
    refine (NN.out _).mono ?_
    rintro e w1 ⟨rfl, x0⟩
    go_wp2_with fail
    have hB : Box ((w1.alloc (.cells #[.int .i64 m, .int .i64 0, .int .i64 0, .int .i64 0, .int .i64 0, .int .i64 0, .int .i64 0] 26)).alloc (.cells #[.int .i64 0, .int .i64 0, .int .i64 0, .int .i64 0, .int .i64 0, .int .i64 0] 22)) w1.heap.size ⟨m, 0, 0, 0, 0, 0, 0⟩ := (Box.new w1 26 m 0 0 0 0 0 0).ext (Ext.alloc _ _)
    have hS : Six ((w1.alloc (.cells #[.int .i64 m, .int .i64 0, .int .i64 0, .int .i64 0, .int .i64 0, .int .i64 0, .int .i64 0] 26)).alloc (.cells #[.int .i64 0, .int .i64 0, .int .i64 0, .int .i64 0, .int .i64 0, .int .i64 0] 22)) (w1.heap.size + 1) ⟨m, 0, 0, 0, 0, 0, 0⟩ := by
      have h := Six.new (w1.alloc (.cells #[.int .i64 m, .int .i64 0, .int .i64 0, .int .i64 0, .int .i64 0, .int .i64 0, .int .i64 0] 26)) m
      simpa using h
    have hsz := x0.size
    have x0 := (x0.al (.cells #[.int .i64 m, .int .i64 0, .int .i64 0, .int .i64 0, .int .i64 0, .int .i64 0, .int .i64 0] 26)).al (.cells #[.int .i64 0, .int .i64 0, .int .i64 0, .int .i64 0, .int .i64 0, .int .i64 0] 22)
    generalize (w1.alloc (.cells #[.int .i64 m, .int .i64 0, .int .i64 0, .int .i64 0, .int .i64 0, .int .i64 0, .int .i64 0] 26)).alloc (.cells #[.int .i64 0, .int .i64 0, .int .i64 0, .int .i64 0, .int .i64 0, .int .i64 0] 22) = w2 at *
    generalize w1.heap.size = b at *
    go_loopw [9] (fun i wr => ∃ (j : Nat) (s : S), i = .int .i64 j ∧ j ≤ l.length ∧ Box wr b s ∧ Six wr (b + 1) s ∧ s.check = 0 ∧ s.c = m ∧ Ext w wr) (fun i _ => l.length - (intOf i).toNat)
    case atStart => exact ⟨0, ⟨m, 0, 0, 0, 0, 0, 0⟩, rfl, by omega, hB, hS, new_may m HM.out, rfl, x0⟩
    case round =>
      clear hB hS x0
      obtain ⟨j, s, rfl, hj, hb, hS, hz, hcm, hx⟩ := hrel
      by_cases hlt : j < l.length
      · have hlt2 : (j : Int) < l.length := by omega
        obtain ⟨g, o, x, n, bk, rfl, hv, ⟨hx1, hx2⟩, ⟨hn1, hn2⟩, hc1, hc2, hc3⟩ := hA.out.get hlt
        have hgw : g < w.heap.size := lt_of_cell hc1
        have HC := Lib.hid hc3
        have e1 := hx.cell_some hc1
        have e2 := hx.cell_some hc2
        clear hc1 hc2 hc3 hv
        have BQ := Lib.hid hb
        have SQ := Lib.hid hS
        have HZ := Lib.hid hz
        have HCM := Lib.hid hcm
        clear hb hS hz hcm
        have hmod : IntKind.i64.wrap (x.tmod 6) = x % 6 := by rw [Int.tmod_eq_emod_of_nonneg hx1]; exact IntWalk.i64_in _ (by omega)
        have hwn : IntKind.i64.wrap n = n := IntWalk.i64_in _ (by omega)
        have hki : inB (x % 6) 0 5 = true := kind_in ⟨hx1, hx2⟩
        go_wp2_with fail
        refine region_held none [(0, true), (1, true), (2, true), (3, true), (4, true), (5, true), (6, true), (7, true), (8, true), (9, true), (10, true), (11, true), (12, true), (13, false)] [14] (by kernel_rfl) (by kernel_rfl) (fun _ _ d _ _ h => by cases d <;> exact h) (fun W hW => ?_)
        simp only [pick, pickF, List.getElem?_cons_zero, List.getElem?_cons_succ]
        have xW : Ext wr W := hW ▸ Ext.drew _
        have hx := hx.trans xW
        have e1 := xW.cell_some e1
        have e2 := xW.cell_some e2
        have BQ := Lib.hid (BQ.out.ext xW)
        have SQ := Lib.hid (SQ.out.ext xW)
        clear hW xW
        have q1 : ∀ w1, Gr none W w1 → w1.cell? _ = _ := fun w1 h => h.cell_some e1 (by simp)
        have q2 : ∀ w1, Gr none W w1 → w1.cell? _ = _ := fun w1 h => h.cell_some e2 (by simp)
        have hgr := Gr.refl none W
        iterate 13
          refine held_yes hgr _ rfl (fun w1 hw1 => by unfold Oper.quietAt; go_simp; rfl) ?_
          simp only [Act.put, List.setIfInBounds_toArray, List.set_cons_zero, List.set_cons_succ]
        clear q1 q2 e1 e2
        try rw [hmod, hwn]
        clear hmod hwn
        refine held_step rfl (fun K hK => ?_)
        go_simp
        refine hK _ _ hgr ?_
        clear hK K
        refine held_nil ?_
        go_wp2_with fail
        obtain ⟨k, hk⟩ : ∃ k, k = x % 6 := ⟨_, rfl⟩
        rw [← hk] at hki
        rw [← hk]
        clear hk hx1 hx2
        have hx0 := hx
        go_loopw [12, 13] (fun t q wr2 => ∃ p : Nat, t = .int .i64 (sumK s p) ∧ q = .int .i64 p ∧ p ≤ 6 ∧ Ext W wr2) (fun _ q _ => 6 - (intOf q).toNat)
        case atStart => exact ⟨0, rfl, rfl, by omega, Ext.refl W⟩
        case round =>
          obtain ⟨p, rfl, rfl, hp, hy⟩ := hrel
          by_cases hp6 : p < 6
          · have hp2 : (p : Int) < 6 := by omega
            have hcell := hy.cell_some (SQ.out p hp6).1
            have hgb := get_nn HZ.out (k := (p : Int))
            have hsb := sumK_bounds HZ.out p hp
            have hsb2 := sumK_bounds HZ.out (p + 1) (by omega)
            have hnx := sumK_next s hp6
            have hpi : inB (p : Int) 0 5 = true := by simp [inB]; omega
            have hcb := cost_pos hpi
            have hmul : s.get p * costI p = sumK s (p + 1) - sumK s p := by omega
            have HMUL := Lib.hid (And.intro hmul hnx)
            have HB2 := Lib.hid (And.intro hsb hsb2)
            clear hnx hmul hsb hsb2 hgb hcb hpi
            go_wp2_with fail
            refine region_held none [(0, true), (1, true), (2, true), (3, true), (4, true), (5, false), (6, true), (7, true)] [8] (by kernel_rfl) (by kernel_rfl) (fun _ _ d _ _ h => by cases d <;> exact h) (fun V hV => ?_)
            simp only [pick, pickF, List.getElem?_cons_zero, List.getElem?_cons_succ]
            have xV : Ext wr V := hV ▸ Ext.drew _
            have hcell := xV.cell_some hcell
            have hy := hy.trans xV
            clear hV xV
            have q1 : ∀ w1, Gr none V w1 → w1.cell? _ = _ := fun w1 h => h.cell_some hcell (by simp)
            iterate 5
              refine held_yes (Gr.refl none V) _ rfl (fun w1 hw1 => by unfold Oper.quietAt; go_simp; rfl) ?_
              simp only [Act.put, List.setIfInBounds_toArray, List.set_cons_zero, List.set_cons_succ]
            clear q1 hcell
            refine held_step rfl (fun K hK => ?_)
            go_simp
            refine (cost_any _ _).mono ?_
            rintro e w4 ⟨rfl, y4⟩
            refine hK _ _ (y4.gr _) ?_
            clear hK K
            iterate 2
              refine held_yes (y4.gr _) _ rfl (fun w1 hw1 => by unfold Oper.quietAt; go_simp; rfl) ?_
              simp only [Act.put, List.setIfInBounds_toArray, List.set_cons_zero, List.set_cons_succ]
            refine held_nil ?_
            go_wp2_with fail
            refine ⟨⟨p + 1, ?_, rfl, by omega, hy.trans y4⟩, by simp [intOf]; omega⟩
            refine congrArg (Value.int .i64) ?_
            have := HMUL.out
            have := HB2.out
            rw [IntWalk.i64_in (s.get p * costI p) (by omega), IntWalk.i64_in _ (by omega)]
            omega
          · have hp2 : ¬ (p : Int) < 6 := by omega
            obtain rfl : p = 6 := by omega
            have BQ := Lib.hid (BQ.out.ext hy)
            have SQ := Lib.hid (SQ.out.ext hy)
            have hx := hx0.trans hy
            have hsb := sumK_bounds HZ.out 6 (by omega)
            have hsl : sumK s 6 = s.sum := sumK_all s
            have hcb := cost_pos hki
            have c3 := hx.cell_some HC.out
            have hgk := get_nn HZ.out (k := k)
            obtain ⟨gv, hgv⟩ : ∃ x : Int, x = s.get k := ⟨_, rfl⟩
            have hgl := give_law s k n HZ.out hki hn1
            have htl := take_law s k n HZ.out hki hn1
            have hbx : b < wr.heap.size := lt_of_cell BQ.out.cells.1
            rw [← hgv] at hgk hgl
            rw [hsl] at hsb
            rw [hsl]
            have hk6 := six_cases hki
            have hko1 : 0 ≤ k := by omega
            have hko2 : k < 6 := by omega
            have hnc : 0 ≤ n * costI k ∧ n * costI k ≤ 2040 := by rcases hk6 with rfl | rfl | rfl | rfl | rfl | rfl <;> simp [costI] <;> omega
            have hcm2 : s.c = m := HCM.out
            rw [hcm2] at htl
            have hbw : w.heap.size ≤ b := by omega
            obtain ⟨su, hsu⟩ : ∃ x : Int, x = s.sum := ⟨_, rfl⟩
            rw [← hsu] at hsb htl
            rw [← hsu]
            have HK6 := Lib.hid hk6
            have HGV := Lib.hid hgv
            clear hsl hk6 hsu hgv hcb hy hx0
            cases bk
            case' false =>
              by_cases hle : su + n * costI k ≤ m
              case' pos =>
                obtain ⟨⟨d, b0, b1, b2, b3, b4, b5⟩, hT⟩ : ∃ t : S, t = s.add k n := ⟨_, rfl⟩
                have h1 := htl.1
                rw [show decide (su + n * costI k ≤ m) = true by simpa using hle] at h1
                have h2 := htl.2.1 hle
                have hz' : S.check ⟨d, b0, b1, b2, b3, b4, b5⟩ = 0 := by rw [hT]; exact h2.2
                have h2 := h2.1
                have hcm' : d = m := by rw [← hcm2]; exact congrArg S.c hT
                rw [← hT] at h2
                have HT := Lib.hid hT
                obtain ⟨sc, a0, a1, a2, a3, a4, a5⟩ := s
                have NT : Hid (∀ w, Calls Try.prog 7 #[stV sc a0 a1 a2 a3 a4 a5, .int .i64 k, .int .i64 n] w fun e w' => e = .returned (.tuple #[stV d b0 b1 b2 b3 b4 b5, .bool true]) ∧ Ext w w') := Lib.hid (by
                  intro w
                  have h := take_any w sc a0 a1 a2 a3 a4 a5 k n
                  rw [h2, h1] at h
                  exact h)
                have hm1 : IntKind.i64.wrap (n * costI k) = n * costI k := IntWalk.i64_in _ (by omega)
                have hm2 : IntKind.i64.wrap (su + n * costI k) = su + n * costI k := IntWalk.i64_in _ (by omega)
                have hm3 : IntKind.i64.wrap (gv + n) = gv + n := IntWalk.i64_in _ (by omega)
                have hm4 : IntKind.i64.wrap (gv - n) = gv - n := IntWalk.i64_in _ (by omega)
                have HZ' := Lib.hid (And.intro hz' hcm')
                clear h1 h2 hgl htl hT hcm2 hnc hgk hz' hcm'
                obtain ⟨c0, c1, c2, c3', c4, c5, c6⟩ := BQ.out.cells
                go_wp2_with fail
                refine (NT.out _).mono ?_
                rintro e w4 ⟨rfl, y⟩
                have BQ := Lib.hid (BQ.out.ext y)
                have SQ := Lib.hid (SQ.out.ext y)
                have hx := hx.trans y
                have hbx : b < w4.heap.size := lt_of_cell BQ.out.cells.1
                have hbs : b + 1 < w4.heap.size := lt_of_cell (SQ.out 0 (by omega)).1
                clear y c0 c1 c2 c3' c4 c5 c6 c3
                go_wp2_with fail
                have BN := Lib.hid (Box.new w4 26 d b0 b1 b2 b3 b4 b5)
                have BQ := Lib.hid (BQ.out.ext (Ext.alloc w4 (.cells #[.int .i64 d, .int .i64 b0, .int .i64 b1, .int .i64 b2, .int .i64 b3, .int .i64 b4, .int .i64 b5] 26)))
                have SQ := Lib.hid (SQ.out.ext (Ext.alloc w4 (.cells #[.int .i64 d, .int .i64 b0, .int .i64 b1, .int .i64 b2, .int .i64 b3, .int .i64 b4, .int .i64 b5] 26)))
                have hx := hx.al (.cells #[.int .i64 d, .int .i64 b0, .int .i64 b1, .int .i64 b2, .int .i64 b3, .int .i64 b4, .int .i64 b5] 26)
                generalize w4.alloc (.cells #[.int .i64 d, .int .i64 b0, .int .i64 b1, .int .i64 b2, .int .i64 b3, .int .i64 b4, .int .i64 b5] 26) = v4 at *
                generalize w4.heap.size = g4 at *
                refine (cost_any _ _).mono ?_
                rintro e w5 ⟨rfl, y⟩
                have BQ := Lib.hid (BQ.out.ext y)
                have SQ := Lib.hid (SQ.out.ext y)
                have BN := Lib.hid (BN.out.ext y)
                have hx := hx.trans y
                clear y
                obtain ⟨d0, d1, d2, d3, d4, d5, d6⟩ := BN.out.cells
                obtain ⟨f0, f1, f2, f3, f4, f5, f6⟩ := BQ.out.free
                obtain ⟨c0, c1, c2, c3, c4, c5, c6⟩ := BQ.out.cells
                obtain ⟨k1, k2⟩ := SQ.out.at hki
                rw [← HGV.out] at k1
                go_wp2_with fail
                have SQ1 : Six (w5.setCell ⟨b + 1, k.toNat, none⟩ (.int .i64 (gv + n))) (b + 1) ⟨d, b0, b1, b2, b3, b4, b5⟩ := by
                  have h := SQ.out.put hki n
                  rw [← HT.out, ← HGV.out] at h
                  exact h
                have BQ1 : Box (w5.setCell ⟨b + 1, k.toNat, none⟩ (.int .i64 (gv + n))) b ⟨sc, a0, a1, a2, a3, a4, a5⟩ := BQ.out.other (by omega)
                have hx1 : Ext w (w5.setCell ⟨b + 1, k.toNat, none⟩ (.int .i64 (gv + n))) := Ext.set hx (by omega) _
                have hne : b + 1 ≠ b := by omega
                have BQ : Hid (Box (((((((((w5.setCell ⟨b + 1, k.toNat, none⟩ (.int .i64 (gv + n)))).setCell ⟨b, 0, none⟩ (.int .i64 d)).setCell ⟨b, 1, none⟩ (.int .i64 b0)).setCell ⟨b, 2, none⟩ (.int .i64 b1)).setCell ⟨b, 3, none⟩ (.int .i64 b2)).setCell ⟨b, 4, none⟩ (.int .i64 b3)).setCell ⟨b, 5, none⟩ (.int .i64 b4)).setCell ⟨b, 6, none⟩ (.int .i64 b5)) b ⟨d, b0, b1, b2, b3, b4, b5⟩) := Lib.hid ((BQ1.put d b0 b1 b2 b3 b4 b5))
                have SQ : Hid (Six (((((((((w5.setCell ⟨b + 1, k.toNat, none⟩ (.int .i64 (gv + n)))).setCell ⟨b, 0, none⟩ (.int .i64 d)).setCell ⟨b, 1, none⟩ (.int .i64 b0)).setCell ⟨b, 2, none⟩ (.int .i64 b1)).setCell ⟨b, 3, none⟩ (.int .i64 b2)).setCell ⟨b, 4, none⟩ (.int .i64 b3)).setCell ⟨b, 5, none⟩ (.int .i64 b4)).setCell ⟨b, 6, none⟩ (.int .i64 b5)) (b + 1) ⟨d, b0, b1, b2, b3, b4, b5⟩) := Lib.hid ((((((((SQ1.other hne).other hne).other hne).other hne).other hne).other hne).other hne))
                have hx : Ext w (((((((((w5.setCell ⟨b + 1, k.toNat, none⟩ (.int .i64 (gv + n)))).setCell ⟨b, 0, none⟩ (.int .i64 d)).setCell ⟨b, 1, none⟩ (.int .i64 b0)).setCell ⟨b, 2, none⟩ (.int .i64 b1)).setCell ⟨b, 3, none⟩ (.int .i64 b2)).setCell ⟨b, 4, none⟩ (.int .i64 b3)).setCell ⟨b, 5, none⟩ (.int .i64 b4)).setCell ⟨b, 6, none⟩ (.int .i64 b5)) := (Ext.set (Ext.set (Ext.set (Ext.set (Ext.set (Ext.set (Ext.set hx1 hbw _) hbw _) hbw _) hbw _) hbw _) hbw _) hbw _)
                generalize (((((((((w5.setCell ⟨b + 1, k.toNat, none⟩ (.int .i64 (gv + n)))).setCell ⟨b, 0, none⟩ (.int .i64 d)).setCell ⟨b, 1, none⟩ (.int .i64 b0)).setCell ⟨b, 2, none⟩ (.int .i64 b1)).setCell ⟨b, 3, none⟩ (.int .i64 b2)).setCell ⟨b, 4, none⟩ (.int .i64 b3)).setCell ⟨b, 5, none⟩ (.int .i64 b4)).setCell ⟨b, 6, none⟩ (.int .i64 b5)) = w6 at *
                clear SQ1 BQ1 hx1 hne c0 c1 c2 c3 c4 c5 c6 f0 f1 f2 f3 f4 f5 f6 k1 k2 d0 d1 d2 d3 d4 d5 d6 hm1 hm2 hm3 hm4 hle
                obtain ⟨T, hTt⟩ : ∃ T : Int, T = S.sum ⟨d, b0, b1, b2, b3, b4, b5⟩ := ⟨_, rfl⟩
                obtain ⟨L, hL⟩ : ∃ T : Int, T = S.load ⟨d, b0, b1, b2, b3, b4, b5⟩ := ⟨_, rfl⟩
                have hLL := load_law ⟨d, b0, b1, b2, b3, b4, b5⟩ HZ'.out.1
                rw [← hL] at hLL
                have HTot := Lib.hid (show S.total ⟨d, b0, b1, b2, b3, b4, b5⟩ = T ∧ S.left ⟨d, b0, b1, b2, b3, b4, b5⟩ = m - T ∧ S.check ⟨d, b0, b1, b2, b3, b4, b5⟩ = 0 from ⟨by rw [total_eq HZ'.out.1, hTt], by rw [left_eq HZ'.out.1, hTt, ← HZ'.out.2], HZ'.out.1⟩)
                have HLo := Lib.hid (show S.load ⟨d, b0, b1, b2, b3, b4, b5⟩ = L from hL.symm)
                have hw : IntKind.i64.wrap (T + (m - T)) = m := by rw [show T + (m - T) = m by omega]; exact IntWalk.i64_in _ (by have := HM.out; omega)
                have hL0 : ¬ L < 0 := by omega
                have hL1 : ¬ 100 < L := by omega
                clear hTt hL hLL
                refine region_held none [(0, true), (1, false), (2, true), (3, true), (4, true), (5, true), (6, true), (7, true), (8, true), (9, true), (10, true), (12, true), (15, true), (11, false), (13, false), (14, true), (16, true), (17, true), (18, true), (19, true), (20, false), (21, true), (22, true), (23, true), (24, true), (25, false), (26, true), (27, true)] [] (by kernel_rfl) (by kernel_rfl) (fun _ _ d _ _ h => by cases d <;> exact h) (fun W hW => ?_)
                simp only [pick, pickF, List.getElem?_cons_zero, List.getElem?_cons_succ]
                have xW : Ext w6 W := hW ▸ Ext.drew _
                have BQ := Lib.hid (BQ.out.ext xW)
                have SQ := Lib.hid (SQ.out.ext xW)
                have hx := hx.trans xW
                clear hW xW
                have xe := Ext.refl W
                refine held_yes (xe.gr _) _ rfl (fun w1 hw1 => by obtain ⟨c0, c1, c2, c3, c4, c5, c6⟩ := BQ.out.seen hw1; unfold Oper.quietAt; go_simp; rfl) ?_
                simp only [Act.put, List.setIfInBounds_toArray, List.set_cons_zero, List.set_cons_succ]
                refine held_step rfl (fun K hK => ?_)
                go_simp
                refine (check_any _ d b0 b1 b2 b3 b4 b5).mono ?_
                rintro e w2' ⟨rfl, x2⟩
                rw [HTot.out.2.2]
                have xe := xe.trans x2
                refine hK _ _ (xe.gr _) ?_
                clear hK K x2
                refine held_yes (xe.gr _) _ rfl (fun w1 hw1 => by unfold Oper.quietAt; go_simp; rfl) ?_
                simp only [Act.put, List.setIfInBounds_toArray, List.set_cons_zero, List.set_cons_succ]
                refine held_yes (xe.gr _) _ rfl (fun w1 hw1 => by unfold Oper.quietAt; go_simp; rfl) ?_
                simp only [Act.put, List.setIfInBounds_toArray, List.set_cons_zero, List.set_cons_succ]
                refine held_yesG (xe.gr _) _ rfl (fun w1 hw1 => by unfold Oper.quietAt; go_simp; rfl) ?_
                simp only [Act.put, List.setIfInBounds_toArray, List.set_cons_zero, List.set_cons_succ]
                refine held_yesG (xe.gr _) _ rfl (fun w1 hw1 => by obtain ⟨c0, c1, c2, c3, c4, c5, c6⟩ := BQ.out.seen hw1; unfold Oper.quietAt; go_simp; rfl) ?_
                simp only [Act.put, List.setIfInBounds_toArray, List.set_cons_zero, List.set_cons_succ]
                refine held_yesG (xe.gr _) _ rfl (fun w1 hw1 => by obtain ⟨c0, c1, c2, c3, c4, c5⟩ := SQ.out.seen hw1; unfold Oper.quietAt; go_simp; rfl) ?_
                simp only [Act.put, List.setIfInBounds_toArray, List.set_cons_zero, List.set_cons_succ]
                refine held_yesG (xe.gr _) _ rfl (fun w1 hw1 => by unfold Oper.quietAt; go_simp; rfl) ?_
                simp only [Act.put, List.setIfInBounds_toArray, List.set_cons_zero, List.set_cons_succ]
                refine held_yes (xe.gr _) _ rfl (fun w1 hw1 => by unfold Oper.quietAt; go_simp; rfl) ?_
                simp only [Act.put, List.setIfInBounds_toArray, List.set_cons_zero, List.set_cons_succ]
                refine held_yes (xe.gr _) _ rfl (fun w1 hw1 => by unfold Oper.quietAt; go_simp; rfl) ?_
                simp only [Act.put, List.setIfInBounds_toArray, List.set_cons_zero, List.set_cons_succ]
                refine held_yesG (xe.gr _) _ rfl (fun w1 hw1 => by obtain ⟨c0, c1, c2, c3, c4, c5, c6⟩ := BQ.out.seen hw1; unfold Oper.quietAt; go_simp; rfl) ?_
                simp only [Act.put, List.setIfInBounds_toArray, List.set_cons_zero, List.set_cons_succ]
                refine held_yesG (xe.gr _) _ rfl (fun w1 hw1 => by obtain ⟨c0, c1, c2, c3, c4, c5, c6⟩ := BQ.out.seen hw1; unfold Oper.quietAt; go_simp; rfl) ?_
                simp only [Act.put, List.setIfInBounds_toArray, List.set_cons_zero, List.set_cons_succ]
                refine held_yesG (xe.gr _) _ rfl (fun w1 hw1 => by unfold Oper.quietAt; go_simp; rfl) ?_
                simp only [Act.put, List.setIfInBounds_toArray, List.set_cons_zero, List.set_cons_succ]
                refine held_stepG rfl (fun K hK => ?_)
                go_simp
                refine (total_any _ d b0 b1 b2 b3 b4 b5).mono ?_
                rintro e w2' ⟨rfl, x2⟩
                rw [HTot.out.1]
                have xe := xe.trans x2
                refine hK _ _ (xe.gr _) ?_
                clear hK K x2
                refine held_stepG rfl (fun K hK => ?_)
                go_simp
                refine (left_any _ d b0 b1 b2 b3 b4 b5).mono ?_
                rintro e w2' ⟨rfl, x2⟩
                rw [HTot.out.2.1]
                have xe := xe.trans x2
                refine hK _ _ (xe.gr _) ?_
                clear hK K x2
                refine held_yesG (xe.gr _) _ rfl (fun w1 hw1 => by unfold Oper.quietAt; go_simp; rfl) ?_
                simp only [Act.put, List.setIfInBounds_toArray, List.set_cons_zero, List.set_cons_succ]
                refine held_yesG (xe.gr _) _ rfl (fun w1 hw1 => by unfold Oper.quietAt; go_simp; rfl) ?_
                simp only [Act.put, List.setIfInBounds_toArray, List.set_cons_zero, List.set_cons_succ]
                refine held_yes (xe.gr _) _ rfl (fun w1 hw1 => by unfold Oper.quietAt; go_simp; rfl) ?_
                simp only [Act.put, List.setIfInBounds_toArray, List.set_cons_zero, List.set_cons_succ]
                refine held_yes (xe.gr _) _ rfl (fun w1 hw1 => by unfold Oper.quietAt; go_simp; rfl) ?_
                simp only [Act.put, List.setIfInBounds_toArray, List.set_cons_zero, List.set_cons_succ]
                refine held_yesG (xe.gr _) _ rfl (fun w1 hw1 => by obtain ⟨c0, c1, c2, c3, c4, c5, c6⟩ := BQ.out.seen hw1; unfold Oper.quietAt; go_simp; rfl) ?_
                simp only [Act.put, List.setIfInBounds_toArray, List.set_cons_zero, List.set_cons_succ]
                refine held_stepG rfl (fun K hK => ?_)
                go_simp
                refine (load_any _ d b0 b1 b2 b3 b4 b5).mono ?_
                rintro e w2' ⟨rfl, x2⟩
                rw [HLo.out]
                have xe := xe.trans x2
                refine hK _ _ (xe.gr _) ?_
                clear hK K x2
                refine held_yesG (xe.gr _) _ rfl (fun w1 hw1 => by unfold Oper.quietAt; go_simp; rfl) ?_
                simp only [Act.put, List.setIfInBounds_toArray, List.set_cons_zero, List.set_cons_succ]
                refine held_yes (xe.gr _) _ rfl (fun w1 hw1 => by unfold Oper.quietAt; go_simp; rfl) ?_
                simp only [Act.put, List.setIfInBounds_toArray, List.set_cons_zero, List.set_cons_succ]
                refine held_yes (xe.gr _) _ rfl (fun w1 hw1 => by unfold Oper.quietAt; go_simp; rfl) ?_
                simp only [Act.put, List.setIfInBounds_toArray, List.set_cons_zero, List.set_cons_succ]
                refine held_yesG (xe.gr _) _ rfl (fun w1 hw1 => by obtain ⟨c0, c1, c2, c3, c4, c5, c6⟩ := BQ.out.seen hw1; unfold Oper.quietAt; go_simp; rfl) ?_
                simp only [Act.put, List.setIfInBounds_toArray, List.set_cons_zero, List.set_cons_succ]
                refine held_stepG rfl (fun K hK => ?_)
                go_simp
                refine (load_any _ d b0 b1 b2 b3 b4 b5).mono ?_
                rintro e w2' ⟨rfl, x2⟩
                rw [HLo.out]
                have xe := xe.trans x2
                refine hK _ _ (xe.gr _) ?_
                clear hK K x2
                refine held_yesG (xe.gr _) _ rfl (fun w1 hw1 => by unfold Oper.quietAt; go_simp; rfl) ?_
                simp only [Act.put, List.setIfInBounds_toArray, List.set_cons_zero, List.set_cons_succ]
                refine held_yes (xe.gr _) _ rfl (fun w1 hw1 => by unfold Oper.quietAt; go_simp; rfl) ?_
                simp only [Act.put, List.setIfInBounds_toArray, List.set_cons_zero, List.set_cons_succ]
                refine held_nil ?_
                go_wp2_with fail
                exact ⟨⟨j + 1, ⟨d, b0, b1, b2, b3, b4, b5⟩, rfl, by omega, BQ.out.ext xe, SQ.out.ext xe, HZ'.out.1, HZ'.out.2, hx.trans xe⟩, by simp [intOf]; omega⟩
              case' neg =>
                obtain ⟨⟨d, b0, b1, b2, b3, b4, b5⟩, hT⟩ : ∃ t : S, t = s := ⟨_, rfl⟩
                have h1 := htl.1
                rw [show decide (su + n * costI k ≤ m) = false by simpa using hle] at h1
                have h2 := htl.2.2 hle
                have hz' : S.check ⟨d, b0, b1, b2, b3, b4, b5⟩ = 0 := by rw [hT]; exact HZ.out
                have hcm' : d = m := by rw [← hcm2]; exact congrArg S.c hT
                have h2 := h2.trans hT.symm
                have HT := Lib.hid hT
                obtain ⟨sc, a0, a1, a2, a3, a4, a5⟩ := s
                have NT : Hid (∀ w, Calls Try.prog 7 #[stV sc a0 a1 a2 a3 a4 a5, .int .i64 k, .int .i64 n] w fun e w' => e = .returned (.tuple #[stV d b0 b1 b2 b3 b4 b5, .bool false]) ∧ Ext w w') := Lib.hid (by
                  intro w
                  have h := take_any w sc a0 a1 a2 a3 a4 a5 k n
                  rw [h2, h1] at h
                  exact h)
                have hm1 : IntKind.i64.wrap (n * costI k) = n * costI k := IntWalk.i64_in _ (by omega)
                have hm2 : IntKind.i64.wrap (su + n * costI k) = su + n * costI k := IntWalk.i64_in _ (by omega)
                have hm3 : IntKind.i64.wrap (gv + n) = gv + n := IntWalk.i64_in _ (by omega)
                have hm4 : IntKind.i64.wrap (gv - n) = gv - n := IntWalk.i64_in _ (by omega)
                have HZ' := Lib.hid (And.intro hz' hcm')
                clear h1 h2 hgl htl hT hcm2 hnc hgk hz' hcm'
                obtain ⟨c0, c1, c2, c3', c4, c5, c6⟩ := BQ.out.cells
                go_wp2_with fail
                refine (NT.out _).mono ?_
                rintro e w4 ⟨rfl, y⟩
                have BQ := Lib.hid (BQ.out.ext y)
                have SQ := Lib.hid (SQ.out.ext y)
                have hx := hx.trans y
                have hbx : b < w4.heap.size := lt_of_cell BQ.out.cells.1
                have hbs : b + 1 < w4.heap.size := lt_of_cell (SQ.out 0 (by omega)).1
                clear y c0 c1 c2 c3' c4 c5 c6 c3
                go_wp2_with fail
                have BN := Lib.hid (Box.new w4 26 d b0 b1 b2 b3 b4 b5)
                have BQ := Lib.hid (BQ.out.ext (Ext.alloc w4 (.cells #[.int .i64 d, .int .i64 b0, .int .i64 b1, .int .i64 b2, .int .i64 b3, .int .i64 b4, .int .i64 b5] 26)))
                have SQ := Lib.hid (SQ.out.ext (Ext.alloc w4 (.cells #[.int .i64 d, .int .i64 b0, .int .i64 b1, .int .i64 b2, .int .i64 b3, .int .i64 b4, .int .i64 b5] 26)))
                have hx := hx.al (.cells #[.int .i64 d, .int .i64 b0, .int .i64 b1, .int .i64 b2, .int .i64 b3, .int .i64 b4, .int .i64 b5] 26)
                generalize w4.alloc (.cells #[.int .i64 d, .int .i64 b0, .int .i64 b1, .int .i64 b2, .int .i64 b3, .int .i64 b4, .int .i64 b5] 26) = v4 at *
                generalize w4.heap.size = g4 at *
                refine (cost_any _ _).mono ?_
                rintro e w5 ⟨rfl, y⟩
                have BQ := Lib.hid (BQ.out.ext y)
                have SQ := Lib.hid (SQ.out.ext y)
                have BN := Lib.hid (BN.out.ext y)
                have hx := hx.trans y
                clear y
                obtain ⟨d0, d1, d2, d3, d4, d5, d6⟩ := BN.out.cells
                obtain ⟨f0, f1, f2, f3, f4, f5, f6⟩ := BQ.out.free
                obtain ⟨c0, c1, c2, c3, c4, c5, c6⟩ := BQ.out.cells
                obtain ⟨k1, k2⟩ := SQ.out.at hki
                rw [← HGV.out] at k1
                go_wp2_with fail
                have SQ1 : Six w5 (b + 1) ⟨d, b0, b1, b2, b3, b4, b5⟩ := by rw [HT.out]; exact SQ.out
                have BQ1 : Box w5 b ⟨sc, a0, a1, a2, a3, a4, a5⟩ := BQ.out
                have hx1 : Ext w w5 := hx
                have hne : b + 1 ≠ b := by omega
                have BQ : Hid (Box ((((((((w5).setCell ⟨b, 0, none⟩ (.int .i64 d)).setCell ⟨b, 1, none⟩ (.int .i64 b0)).setCell ⟨b, 2, none⟩ (.int .i64 b1)).setCell ⟨b, 3, none⟩ (.int .i64 b2)).setCell ⟨b, 4, none⟩ (.int .i64 b3)).setCell ⟨b, 5, none⟩ (.int .i64 b4)).setCell ⟨b, 6, none⟩ (.int .i64 b5)) b ⟨d, b0, b1, b2, b3, b4, b5⟩) := Lib.hid ((BQ1.put d b0 b1 b2 b3 b4 b5))
                have SQ : Hid (Six ((((((((w5).setCell ⟨b, 0, none⟩ (.int .i64 d)).setCell ⟨b, 1, none⟩ (.int .i64 b0)).setCell ⟨b, 2, none⟩ (.int .i64 b1)).setCell ⟨b, 3, none⟩ (.int .i64 b2)).setCell ⟨b, 4, none⟩ (.int .i64 b3)).setCell ⟨b, 5, none⟩ (.int .i64 b4)).setCell ⟨b, 6, none⟩ (.int .i64 b5)) (b + 1) ⟨d, b0, b1, b2, b3, b4, b5⟩) := Lib.hid ((((((((SQ1.other hne).other hne).other hne).other hne).other hne).other hne).other hne))
                have hx : Ext w ((((((((w5).setCell ⟨b, 0, none⟩ (.int .i64 d)).setCell ⟨b, 1, none⟩ (.int .i64 b0)).setCell ⟨b, 2, none⟩ (.int .i64 b1)).setCell ⟨b, 3, none⟩ (.int .i64 b2)).setCell ⟨b, 4, none⟩ (.int .i64 b3)).setCell ⟨b, 5, none⟩ (.int .i64 b4)).setCell ⟨b, 6, none⟩ (.int .i64 b5)) := (Ext.set (Ext.set (Ext.set (Ext.set (Ext.set (Ext.set (Ext.set hx1 hbw _) hbw _) hbw _) hbw _) hbw _) hbw _) hbw _)
                generalize ((((((((w5).setCell ⟨b, 0, none⟩ (.int .i64 d)).setCell ⟨b, 1, none⟩ (.int .i64 b0)).setCell ⟨b, 2, none⟩ (.int .i64 b1)).setCell ⟨b, 3, none⟩ (.int .i64 b2)).setCell ⟨b, 4, none⟩ (.int .i64 b3)).setCell ⟨b, 5, none⟩ (.int .i64 b4)).setCell ⟨b, 6, none⟩ (.int .i64 b5)) = w6 at *
                clear SQ1 BQ1 hx1 hne c0 c1 c2 c3 c4 c5 c6 f0 f1 f2 f3 f4 f5 f6 k1 k2 d0 d1 d2 d3 d4 d5 d6 hm1 hm2 hm3 hm4 hle
                obtain ⟨T, hTt⟩ : ∃ T : Int, T = S.sum ⟨d, b0, b1, b2, b3, b4, b5⟩ := ⟨_, rfl⟩
                obtain ⟨L, hL⟩ : ∃ T : Int, T = S.load ⟨d, b0, b1, b2, b3, b4, b5⟩ := ⟨_, rfl⟩
                have hLL := load_law ⟨d, b0, b1, b2, b3, b4, b5⟩ HZ'.out.1
                rw [← hL] at hLL
                have HTot := Lib.hid (show S.total ⟨d, b0, b1, b2, b3, b4, b5⟩ = T ∧ S.left ⟨d, b0, b1, b2, b3, b4, b5⟩ = m - T ∧ S.check ⟨d, b0, b1, b2, b3, b4, b5⟩ = 0 from ⟨by rw [total_eq HZ'.out.1, hTt], by rw [left_eq HZ'.out.1, hTt, ← HZ'.out.2], HZ'.out.1⟩)
                have HLo := Lib.hid (show S.load ⟨d, b0, b1, b2, b3, b4, b5⟩ = L from hL.symm)
                have hw : IntKind.i64.wrap (T + (m - T)) = m := by rw [show T + (m - T) = m by omega]; exact IntWalk.i64_in _ (by have := HM.out; omega)
                have hL0 : ¬ L < 0 := by omega
                have hL1 : ¬ 100 < L := by omega
                clear hTt hL hLL
                refine region_held none [(0, true), (1, false), (2, true), (3, true), (4, true), (5, true), (6, true), (7, true), (8, true), (9, true), (10, true), (12, true), (15, true), (11, false), (13, false), (14, true), (16, true), (17, true), (18, true), (19, true), (20, false), (21, true), (22, true), (23, true), (24, true), (25, false), (26, true), (27, true)] [] (by kernel_rfl) (by kernel_rfl) (fun _ _ d _ _ h => by cases d <;> exact h) (fun W hW => ?_)
                simp only [pick, pickF, List.getElem?_cons_zero, List.getElem?_cons_succ]
                have xW : Ext w6 W := hW ▸ Ext.drew _
                have BQ := Lib.hid (BQ.out.ext xW)
                have SQ := Lib.hid (SQ.out.ext xW)
                have hx := hx.trans xW
                clear hW xW
                have xe := Ext.refl W
                refine held_yes (xe.gr _) _ rfl (fun w1 hw1 => by obtain ⟨c0, c1, c2, c3, c4, c5, c6⟩ := BQ.out.seen hw1; unfold Oper.quietAt; go_simp; rfl) ?_
                simp only [Act.put, List.setIfInBounds_toArray, List.set_cons_zero, List.set_cons_succ]
                refine held_step rfl (fun K hK => ?_)
                go_simp
                refine (check_any _ d b0 b1 b2 b3 b4 b5).mono ?_
                rintro e w2' ⟨rfl, x2⟩
                rw [HTot.out.2.2]
                have xe := xe.trans x2
                refine hK _ _ (xe.gr _) ?_
                clear hK K x2
                refine held_yes (xe.gr _) _ rfl (fun w1 hw1 => by unfold Oper.quietAt; go_simp; rfl) ?_
                simp only [Act.put, List.setIfInBounds_toArray, List.set_cons_zero, List.set_cons_succ]
                refine held_yes (xe.gr _) _ rfl (fun w1 hw1 => by unfold Oper.quietAt; go_simp; rfl) ?_
                simp only [Act.put, List.setIfInBounds_toArray, List.set_cons_zero, List.set_cons_succ]
                refine held_yesG (xe.gr _) _ rfl (fun w1 hw1 => by unfold Oper.quietAt; go_simp; rfl) ?_
                simp only [Act.put, List.setIfInBounds_toArray, List.set_cons_zero, List.set_cons_succ]
                refine held_yesG (xe.gr _) _ rfl (fun w1 hw1 => by obtain ⟨c0, c1, c2, c3, c4, c5, c6⟩ := BQ.out.seen hw1; unfold Oper.quietAt; go_simp; rfl) ?_
                simp only [Act.put, List.setIfInBounds_toArray, List.set_cons_zero, List.set_cons_succ]
                refine held_yesG (xe.gr _) _ rfl (fun w1 hw1 => by obtain ⟨c0, c1, c2, c3, c4, c5⟩ := SQ.out.seen hw1; unfold Oper.quietAt; go_simp; rfl) ?_
                simp only [Act.put, List.setIfInBounds_toArray, List.set_cons_zero, List.set_cons_succ]
                refine held_yesG (xe.gr _) _ rfl (fun w1 hw1 => by unfold Oper.quietAt; go_simp; rfl) ?_
                simp only [Act.put, List.setIfInBounds_toArray, List.set_cons_zero, List.set_cons_succ]
                refine held_yes (xe.gr _) _ rfl (fun w1 hw1 => by unfold Oper.quietAt; go_simp; rfl) ?_
                simp only [Act.put, List.setIfInBounds_toArray, List.set_cons_zero, List.set_cons_succ]
                refine held_yes (xe.gr _) _ rfl (fun w1 hw1 => by unfold Oper.quietAt; go_simp; rfl) ?_
                simp only [Act.put, List.setIfInBounds_toArray, List.set_cons_zero, List.set_cons_succ]
                refine held_yesG (xe.gr _) _ rfl (fun w1 hw1 => by obtain ⟨c0, c1, c2, c3, c4, c5, c6⟩ := BQ.out.seen hw1; unfold Oper.quietAt; go_simp; rfl) ?_
                simp only [Act.put, List.setIfInBounds_toArray, List.set_cons_zero, List.set_cons_succ]
                refine held_yesG (xe.gr _) _ rfl (fun w1 hw1 => by obtain ⟨c0, c1, c2, c3, c4, c5, c6⟩ := BQ.out.seen hw1; unfold Oper.quietAt; go_simp; rfl) ?_
                simp only [Act.put, List.setIfInBounds_toArray, List.set_cons_zero, List.set_cons_succ]
                refine held_yesG (xe.gr _) _ rfl (fun w1 hw1 => by unfold Oper.quietAt; go_simp; rfl) ?_
                simp only [Act.put, List.setIfInBounds_toArray, List.set_cons_zero, List.set_cons_succ]
                refine held_stepG rfl (fun K hK => ?_)
                go_simp
                refine (total_any _ d b0 b1 b2 b3 b4 b5).mono ?_
                rintro e w2' ⟨rfl, x2⟩
                rw [HTot.out.1]
                have xe := xe.trans x2
                refine hK _ _ (xe.gr _) ?_
                clear hK K x2
                refine held_stepG rfl (fun K hK => ?_)
                go_simp
                refine (left_any _ d b0 b1 b2 b3 b4 b5).mono ?_
                rintro e w2' ⟨rfl, x2⟩
                rw [HTot.out.2.1]
                have xe := xe.trans x2
                refine hK _ _ (xe.gr _) ?_
                clear hK K x2
                refine held_yesG (xe.gr _) _ rfl (fun w1 hw1 => by unfold Oper.quietAt; go_simp; rfl) ?_
                simp only [Act.put, List.setIfInBounds_toArray, List.set_cons_zero, List.set_cons_succ]
                refine held_yesG (xe.gr _) _ rfl (fun w1 hw1 => by unfold Oper.quietAt; go_simp; rfl) ?_
                simp only [Act.put, List.setIfInBounds_toArray, List.set_cons_zero, List.set_cons_succ]
                refine held_yes (xe.gr _) _ rfl (fun w1 hw1 => by unfold Oper.quietAt; go_simp; rfl) ?_
                simp only [Act.put, List.setIfInBounds_toArray, List.set_cons_zero, List.set_cons_succ]
                refine held_yes (xe.gr _) _ rfl (fun w1 hw1 => by unfold Oper.quietAt; go_simp; rfl) ?_
                simp only [Act.put, List.setIfInBounds_toArray, List.set_cons_zero, List.set_cons_succ]
                refine held_yesG (xe.gr _) _ rfl (fun w1 hw1 => by obtain ⟨c0, c1, c2, c3, c4, c5, c6⟩ := BQ.out.seen hw1; unfold Oper.quietAt; go_simp; rfl) ?_
                simp only [Act.put, List.setIfInBounds_toArray, List.set_cons_zero, List.set_cons_succ]
                refine held_stepG rfl (fun K hK => ?_)
                go_simp
                refine (load_any _ d b0 b1 b2 b3 b4 b5).mono ?_
                rintro e w2' ⟨rfl, x2⟩
                rw [HLo.out]
                have xe := xe.trans x2
                refine hK _ _ (xe.gr _) ?_
                clear hK K x2
                refine held_yesG (xe.gr _) _ rfl (fun w1 hw1 => by unfold Oper.quietAt; go_simp; rfl) ?_
                simp only [Act.put, List.setIfInBounds_toArray, List.set_cons_zero, List.set_cons_succ]
                refine held_yes (xe.gr _) _ rfl (fun w1 hw1 => by unfold Oper.quietAt; go_simp; rfl) ?_
                simp only [Act.put, List.setIfInBounds_toArray, List.set_cons_zero, List.set_cons_succ]
                refine held_yes (xe.gr _) _ rfl (fun w1 hw1 => by unfold Oper.quietAt; go_simp; rfl) ?_
                simp only [Act.put, List.setIfInBounds_toArray, List.set_cons_zero, List.set_cons_succ]
                refine held_yesG (xe.gr _) _ rfl (fun w1 hw1 => by obtain ⟨c0, c1, c2, c3, c4, c5, c6⟩ := BQ.out.seen hw1; unfold Oper.quietAt; go_simp; rfl) ?_
                simp only [Act.put, List.setIfInBounds_toArray, List.set_cons_zero, List.set_cons_succ]
                refine held_stepG rfl (fun K hK => ?_)
                go_simp
                refine (load_any _ d b0 b1 b2 b3 b4 b5).mono ?_
                rintro e w2' ⟨rfl, x2⟩
                rw [HLo.out]
                have xe := xe.trans x2
                refine hK _ _ (xe.gr _) ?_
                clear hK K x2
                refine held_yesG (xe.gr _) _ rfl (fun w1 hw1 => by unfold Oper.quietAt; go_simp; rfl) ?_
                simp only [Act.put, List.setIfInBounds_toArray, List.set_cons_zero, List.set_cons_succ]
                refine held_yes (xe.gr _) _ rfl (fun w1 hw1 => by unfold Oper.quietAt; go_simp; rfl) ?_
                simp only [Act.put, List.setIfInBounds_toArray, List.set_cons_zero, List.set_cons_succ]
                refine held_nil ?_
                go_wp2_with fail
                exact ⟨⟨j + 1, ⟨d, b0, b1, b2, b3, b4, b5⟩, rfl, by omega, BQ.out.ext xe, SQ.out.ext xe, HZ'.out.1, HZ'.out.2, hx.trans xe⟩, by simp [intOf]; omega⟩
            case' true =>
              by_cases hle : n ≤ gv
              case' pos =>
                obtain ⟨⟨d, b0, b1, b2, b3, b4, b5⟩, hT⟩ : ∃ t : S, t = s.add k (-n) := ⟨_, rfl⟩
                have h1 := hgl.1
                rw [show decide (n ≤ gv) = true by simpa using hle] at h1
                have h2 := hgl.2.1 hle
                have hz' : S.check ⟨d, b0, b1, b2, b3, b4, b5⟩ = 0 := by rw [hT]; exact h2.2
                have h2 := h2.1
                have hcm' : d = m := by rw [← hcm2]; exact congrArg S.c hT
                rw [← hT] at h2
                have HT := Lib.hid hT
                obtain ⟨sc, a0, a1, a2, a3, a4, a5⟩ := s
                have NT : Hid (∀ w, Calls Try.prog 9 #[stV sc a0 a1 a2 a3 a4 a5, .int .i64 k, .int .i64 n] w fun e w' => e = .returned (.tuple #[stV d b0 b1 b2 b3 b4 b5, .bool true]) ∧ Ext w w') := Lib.hid (by
                  intro w
                  have h := give_any w sc a0 a1 a2 a3 a4 a5 k n
                  rw [h2, h1] at h
                  exact h)
                have hm1 : IntKind.i64.wrap (n * costI k) = n * costI k := IntWalk.i64_in _ (by omega)
                have hm2 : IntKind.i64.wrap (su + n * costI k) = su + n * costI k := IntWalk.i64_in _ (by omega)
                have hm3 : IntKind.i64.wrap (gv + n) = gv + n := IntWalk.i64_in _ (by omega)
                have hm4 : IntKind.i64.wrap (gv - n) = gv - n := IntWalk.i64_in _ (by omega)
                have HZ' := Lib.hid (And.intro hz' hcm')
                clear h1 h2 hgl htl hT hcm2 hnc hgk hz' hcm'
                obtain ⟨c0, c1, c2, c3', c4, c5, c6⟩ := BQ.out.cells
                go_wp2_with fail
                refine (NT.out _).mono ?_
                rintro e w4 ⟨rfl, y⟩
                have BQ := Lib.hid (BQ.out.ext y)
                have SQ := Lib.hid (SQ.out.ext y)
                have hx := hx.trans y
                have hbx : b < w4.heap.size := lt_of_cell BQ.out.cells.1
                have hbs : b + 1 < w4.heap.size := lt_of_cell (SQ.out 0 (by omega)).1
                clear y c0 c1 c2 c3' c4 c5 c6 c3
                obtain ⟨f0, f1, f2, f3, f4, f5, f6⟩ := (BQ.out.ext (Ext.alloc w4 (.cells #[.int .i64 d, .int .i64 b0, .int .i64 b1, .int .i64 b2, .int .i64 b3, .int .i64 b4, .int .i64 b5] 26))).free
                obtain ⟨c0, c1, c2, c3, c4, c5, c6⟩ := (BQ.out.ext (Ext.alloc w4 (.cells #[.int .i64 d, .int .i64 b0, .int .i64 b1, .int .i64 b2, .int .i64 b3, .int .i64 b4, .int .i64 b5] 26))).cells
                obtain ⟨k1, k2⟩ := (SQ.out.ext (Ext.alloc w4 (.cells #[.int .i64 d, .int .i64 b0, .int .i64 b1, .int .i64 b2, .int .i64 b3, .int .i64 b4, .int .i64 b5] 26))).at hki
                obtain ⟨f0', f1', f2', f3', f4', f5', f6'⟩ := BQ.out.free
                obtain ⟨c0', c1', c2', c3', c4', c5', c6'⟩ := BQ.out.cells
                obtain ⟨k1', k2'⟩ := SQ.out.at hki
                rw [← HGV.out] at k1 k1'
                go_wp2_with fail
                have SQ1 : Six (w4.setCell ⟨b + 1, k.toNat, none⟩ (.int .i64 (gv - n))) (b + 1) ⟨d, b0, b1, b2, b3, b4, b5⟩ := by
                  have h := SQ.out.put hki (-n)
                  rw [← HT.out, ← HGV.out] at h
                  exact h
                have BQ1 : Box (w4.setCell ⟨b + 1, k.toNat, none⟩ (.int .i64 (gv - n))) b ⟨sc, a0, a1, a2, a3, a4, a5⟩ := BQ.out.other (by omega)
                have hx1 : Ext w (w4.setCell ⟨b + 1, k.toNat, none⟩ (.int .i64 (gv - n))) := Ext.set hx (by omega) _
                have hne : b + 1 ≠ b := by omega
                have BQ : Hid (Box ((((((((((w4.setCell ⟨b + 1, k.toNat, none⟩ (.int .i64 (gv - n)))).setCell ⟨b, 0, none⟩ (.int .i64 d)).setCell ⟨b, 1, none⟩ (.int .i64 b0)).setCell ⟨b, 2, none⟩ (.int .i64 b1)).setCell ⟨b, 3, none⟩ (.int .i64 b2)).setCell ⟨b, 4, none⟩ (.int .i64 b3)).setCell ⟨b, 5, none⟩ (.int .i64 b4)).setCell ⟨b, 6, none⟩ (.int .i64 b5)).alloc (.cells #[.int .i64 d, .int .i64 b0, .int .i64 b1, .int .i64 b2, .int .i64 b3, .int .i64 b4, .int .i64 b5] 26)) b ⟨d, b0, b1, b2, b3, b4, b5⟩) := Lib.hid ((BQ1.put d b0 b1 b2 b3 b4 b5).ext (Ext.alloc _ (.cells #[.int .i64 d, .int .i64 b0, .int .i64 b1, .int .i64 b2, .int .i64 b3, .int .i64 b4, .int .i64 b5] 26)))
                have SQ : Hid (Six ((((((((((w4.setCell ⟨b + 1, k.toNat, none⟩ (.int .i64 (gv - n)))).setCell ⟨b, 0, none⟩ (.int .i64 d)).setCell ⟨b, 1, none⟩ (.int .i64 b0)).setCell ⟨b, 2, none⟩ (.int .i64 b1)).setCell ⟨b, 3, none⟩ (.int .i64 b2)).setCell ⟨b, 4, none⟩ (.int .i64 b3)).setCell ⟨b, 5, none⟩ (.int .i64 b4)).setCell ⟨b, 6, none⟩ (.int .i64 b5)).alloc (.cells #[.int .i64 d, .int .i64 b0, .int .i64 b1, .int .i64 b2, .int .i64 b3, .int .i64 b4, .int .i64 b5] 26)) (b + 1) ⟨d, b0, b1, b2, b3, b4, b5⟩) := Lib.hid ((((((((SQ1.other hne).other hne).other hne).other hne).other hne).other hne).other hne).ext (Ext.alloc _ (.cells #[.int .i64 d, .int .i64 b0, .int .i64 b1, .int .i64 b2, .int .i64 b3, .int .i64 b4, .int .i64 b5] 26)))
                have hx : Ext w ((((((((((w4.setCell ⟨b + 1, k.toNat, none⟩ (.int .i64 (gv - n)))).setCell ⟨b, 0, none⟩ (.int .i64 d)).setCell ⟨b, 1, none⟩ (.int .i64 b0)).setCell ⟨b, 2, none⟩ (.int .i64 b1)).setCell ⟨b, 3, none⟩ (.int .i64 b2)).setCell ⟨b, 4, none⟩ (.int .i64 b3)).setCell ⟨b, 5, none⟩ (.int .i64 b4)).setCell ⟨b, 6, none⟩ (.int .i64 b5)).alloc (.cells #[.int .i64 d, .int .i64 b0, .int .i64 b1, .int .i64 b2, .int .i64 b3, .int .i64 b4, .int .i64 b5] 26)) := (Ext.set (Ext.set (Ext.set (Ext.set (Ext.set (Ext.set (Ext.set hx1 hbw _) hbw _) hbw _) hbw _) hbw _) hbw _) hbw _).al (.cells #[.int .i64 d, .int .i64 b0, .int .i64 b1, .int .i64 b2, .int .i64 b3, .int .i64 b4, .int .i64 b5] 26)
                generalize ((((((((((w4.setCell ⟨b + 1, k.toNat, none⟩ (.int .i64 (gv - n)))).setCell ⟨b, 0, none⟩ (.int .i64 d)).setCell ⟨b, 1, none⟩ (.int .i64 b0)).setCell ⟨b, 2, none⟩ (.int .i64 b1)).setCell ⟨b, 3, none⟩ (.int .i64 b2)).setCell ⟨b, 4, none⟩ (.int .i64 b3)).setCell ⟨b, 5, none⟩ (.int .i64 b4)).setCell ⟨b, 6, none⟩ (.int .i64 b5)).alloc (.cells #[.int .i64 d, .int .i64 b0, .int .i64 b1, .int .i64 b2, .int .i64 b3, .int .i64 b4, .int .i64 b5] 26)) = w6 at *
                clear SQ1 BQ1 hx1 hne c0 c1 c2 c3 c4 c5 c6 f0 f1 f2 f3 f4 f5 f6 k1 k2 c0' c1' c2' c3' c4' c5' c6' f0' f1' f2' f3' f4' f5' f6' k1' k2' hm1 hm2 hm3 hm4 hle
                obtain ⟨T, hTt⟩ : ∃ T : Int, T = S.sum ⟨d, b0, b1, b2, b3, b4, b5⟩ := ⟨_, rfl⟩
                obtain ⟨L, hL⟩ : ∃ T : Int, T = S.load ⟨d, b0, b1, b2, b3, b4, b5⟩ := ⟨_, rfl⟩
                have hLL := load_law ⟨d, b0, b1, b2, b3, b4, b5⟩ HZ'.out.1
                rw [← hL] at hLL
                have HTot := Lib.hid (show S.total ⟨d, b0, b1, b2, b3, b4, b5⟩ = T ∧ S.left ⟨d, b0, b1, b2, b3, b4, b5⟩ = m - T ∧ S.check ⟨d, b0, b1, b2, b3, b4, b5⟩ = 0 from ⟨by rw [total_eq HZ'.out.1, hTt], by rw [left_eq HZ'.out.1, hTt, ← HZ'.out.2], HZ'.out.1⟩)
                have HLo := Lib.hid (show S.load ⟨d, b0, b1, b2, b3, b4, b5⟩ = L from hL.symm)
                have hw : IntKind.i64.wrap (T + (m - T)) = m := by rw [show T + (m - T) = m by omega]; exact IntWalk.i64_in _ (by have := HM.out; omega)
                have hL0 : ¬ L < 0 := by omega
                have hL1 : ¬ 100 < L := by omega
                clear hTt hL hLL
                refine region_held none [(0, true), (1, false), (2, true), (3, true), (4, true), (5, true), (6, true), (7, true), (8, true), (9, true), (10, true), (12, true), (15, true), (11, false), (13, false), (14, true), (16, true), (17, true), (18, true), (19, true), (20, false), (21, true), (22, true), (23, true), (24, true), (25, false), (26, true), (27, true)] [] (by kernel_rfl) (by kernel_rfl) (fun _ _ d _ _ h => by cases d <;> exact h) (fun W hW => ?_)
                simp only [pick, pickF, List.getElem?_cons_zero, List.getElem?_cons_succ]
                have xW : Ext w6 W := hW ▸ Ext.drew _
                have BQ := Lib.hid (BQ.out.ext xW)
                have SQ := Lib.hid (SQ.out.ext xW)
                have hx := hx.trans xW
                clear hW xW
                have xe := Ext.refl W
                refine held_yes (xe.gr _) _ rfl (fun w1 hw1 => by obtain ⟨c0, c1, c2, c3, c4, c5, c6⟩ := BQ.out.seen hw1; unfold Oper.quietAt; go_simp; rfl) ?_
                simp only [Act.put, List.setIfInBounds_toArray, List.set_cons_zero, List.set_cons_succ]
                refine held_step rfl (fun K hK => ?_)
                go_simp
                refine (check_any _ d b0 b1 b2 b3 b4 b5).mono ?_
                rintro e w2' ⟨rfl, x2⟩
                rw [HTot.out.2.2]
                have xe := xe.trans x2
                refine hK _ _ (xe.gr _) ?_
                clear hK K x2
                refine held_yes (xe.gr _) _ rfl (fun w1 hw1 => by unfold Oper.quietAt; go_simp; rfl) ?_
                simp only [Act.put, List.setIfInBounds_toArray, List.set_cons_zero, List.set_cons_succ]
                refine held_yes (xe.gr _) _ rfl (fun w1 hw1 => by unfold Oper.quietAt; go_simp; rfl) ?_
                simp only [Act.put, List.setIfInBounds_toArray, List.set_cons_zero, List.set_cons_succ]
                refine held_yesG (xe.gr _) _ rfl (fun w1 hw1 => by unfold Oper.quietAt; go_simp; rfl) ?_
                simp only [Act.put, List.setIfInBounds_toArray, List.set_cons_zero, List.set_cons_succ]
                refine held_yesG (xe.gr _) _ rfl (fun w1 hw1 => by obtain ⟨c0, c1, c2, c3, c4, c5, c6⟩ := BQ.out.seen hw1; unfold Oper.quietAt; go_simp; rfl) ?_
                simp only [Act.put, List.setIfInBounds_toArray, List.set_cons_zero, List.set_cons_succ]
                refine held_yesG (xe.gr _) _ rfl (fun w1 hw1 => by obtain ⟨c0, c1, c2, c3, c4, c5⟩ := SQ.out.seen hw1; unfold Oper.quietAt; go_simp; rfl) ?_
                simp only [Act.put, List.setIfInBounds_toArray, List.set_cons_zero, List.set_cons_succ]
                refine held_yesG (xe.gr _) _ rfl (fun w1 hw1 => by unfold Oper.quietAt; go_simp; rfl) ?_
                simp only [Act.put, List.setIfInBounds_toArray, List.set_cons_zero, List.set_cons_succ]
                refine held_yes (xe.gr _) _ rfl (fun w1 hw1 => by unfold Oper.quietAt; go_simp; rfl) ?_
                simp only [Act.put, List.setIfInBounds_toArray, List.set_cons_zero, List.set_cons_succ]
                refine held_yes (xe.gr _) _ rfl (fun w1 hw1 => by unfold Oper.quietAt; go_simp; rfl) ?_
                simp only [Act.put, List.setIfInBounds_toArray, List.set_cons_zero, List.set_cons_succ]
                refine held_yesG (xe.gr _) _ rfl (fun w1 hw1 => by obtain ⟨c0, c1, c2, c3, c4, c5, c6⟩ := BQ.out.seen hw1; unfold Oper.quietAt; go_simp; rfl) ?_
                simp only [Act.put, List.setIfInBounds_toArray, List.set_cons_zero, List.set_cons_succ]
                refine held_yesG (xe.gr _) _ rfl (fun w1 hw1 => by obtain ⟨c0, c1, c2, c3, c4, c5, c6⟩ := BQ.out.seen hw1; unfold Oper.quietAt; go_simp; rfl) ?_
                simp only [Act.put, List.setIfInBounds_toArray, List.set_cons_zero, List.set_cons_succ]
                refine held_yesG (xe.gr _) _ rfl (fun w1 hw1 => by unfold Oper.quietAt; go_simp; rfl) ?_
                simp only [Act.put, List.setIfInBounds_toArray, List.set_cons_zero, List.set_cons_succ]
                refine held_stepG rfl (fun K hK => ?_)
                go_simp
                refine (total_any _ d b0 b1 b2 b3 b4 b5).mono ?_
                rintro e w2' ⟨rfl, x2⟩
                rw [HTot.out.1]
                have xe := xe.trans x2
                refine hK _ _ (xe.gr _) ?_
                clear hK K x2
                refine held_stepG rfl (fun K hK => ?_)
                go_simp
                refine (left_any _ d b0 b1 b2 b3 b4 b5).mono ?_
                rintro e w2' ⟨rfl, x2⟩
                rw [HTot.out.2.1]
                have xe := xe.trans x2
                refine hK _ _ (xe.gr _) ?_
                clear hK K x2
                refine held_yesG (xe.gr _) _ rfl (fun w1 hw1 => by unfold Oper.quietAt; go_simp; rfl) ?_
                simp only [Act.put, List.setIfInBounds_toArray, List.set_cons_zero, List.set_cons_succ]
                refine held_yesG (xe.gr _) _ rfl (fun w1 hw1 => by unfold Oper.quietAt; go_simp; rfl) ?_
                simp only [Act.put, List.setIfInBounds_toArray, List.set_cons_zero, List.set_cons_succ]
                refine held_yes (xe.gr _) _ rfl (fun w1 hw1 => by unfold Oper.quietAt; go_simp; rfl) ?_
                simp only [Act.put, List.setIfInBounds_toArray, List.set_cons_zero, List.set_cons_succ]
                refine held_yes (xe.gr _) _ rfl (fun w1 hw1 => by unfold Oper.quietAt; go_simp; rfl) ?_
                simp only [Act.put, List.setIfInBounds_toArray, List.set_cons_zero, List.set_cons_succ]
                refine held_yesG (xe.gr _) _ rfl (fun w1 hw1 => by obtain ⟨c0, c1, c2, c3, c4, c5, c6⟩ := BQ.out.seen hw1; unfold Oper.quietAt; go_simp; rfl) ?_
                simp only [Act.put, List.setIfInBounds_toArray, List.set_cons_zero, List.set_cons_succ]
                refine held_stepG rfl (fun K hK => ?_)
                go_simp
                refine (load_any _ d b0 b1 b2 b3 b4 b5).mono ?_
                rintro e w2' ⟨rfl, x2⟩
                rw [HLo.out]
                have xe := xe.trans x2
                refine hK _ _ (xe.gr _) ?_
                clear hK K x2
                refine held_yesG (xe.gr _) _ rfl (fun w1 hw1 => by unfold Oper.quietAt; go_simp; rfl) ?_
                simp only [Act.put, List.setIfInBounds_toArray, List.set_cons_zero, List.set_cons_succ]
                refine held_yes (xe.gr _) _ rfl (fun w1 hw1 => by unfold Oper.quietAt; go_simp; rfl) ?_
                simp only [Act.put, List.setIfInBounds_toArray, List.set_cons_zero, List.set_cons_succ]
                refine held_yes (xe.gr _) _ rfl (fun w1 hw1 => by unfold Oper.quietAt; go_simp; rfl) ?_
                simp only [Act.put, List.setIfInBounds_toArray, List.set_cons_zero, List.set_cons_succ]
                refine held_yesG (xe.gr _) _ rfl (fun w1 hw1 => by obtain ⟨c0, c1, c2, c3, c4, c5, c6⟩ := BQ.out.seen hw1; unfold Oper.quietAt; go_simp; rfl) ?_
                simp only [Act.put, List.setIfInBounds_toArray, List.set_cons_zero, List.set_cons_succ]
                refine held_stepG rfl (fun K hK => ?_)
                go_simp
                refine (load_any _ d b0 b1 b2 b3 b4 b5).mono ?_
                rintro e w2' ⟨rfl, x2⟩
                rw [HLo.out]
                have xe := xe.trans x2
                refine hK _ _ (xe.gr _) ?_
                clear hK K x2
                refine held_yesG (xe.gr _) _ rfl (fun w1 hw1 => by unfold Oper.quietAt; go_simp; rfl) ?_
                simp only [Act.put, List.setIfInBounds_toArray, List.set_cons_zero, List.set_cons_succ]
                refine held_yes (xe.gr _) _ rfl (fun w1 hw1 => by unfold Oper.quietAt; go_simp; rfl) ?_
                simp only [Act.put, List.setIfInBounds_toArray, List.set_cons_zero, List.set_cons_succ]
                refine held_nil ?_
                go_wp2_with fail
                exact ⟨⟨j + 1, ⟨d, b0, b1, b2, b3, b4, b5⟩, rfl, by omega, BQ.out.ext xe, SQ.out.ext xe, HZ'.out.1, HZ'.out.2, hx.trans xe⟩, by simp [intOf]; omega⟩
              case' neg =>
                obtain ⟨⟨d, b0, b1, b2, b3, b4, b5⟩, hT⟩ : ∃ t : S, t = s := ⟨_, rfl⟩
                have h1 := hgl.1
                rw [show decide (n ≤ gv) = false by simpa using hle] at h1
                have h2 := hgl.2.2 hle
                have hz' : S.check ⟨d, b0, b1, b2, b3, b4, b5⟩ = 0 := by rw [hT]; exact HZ.out
                have hcm' : d = m := by rw [← hcm2]; exact congrArg S.c hT
                have h2 := h2.trans hT.symm
                have HT := Lib.hid hT
                obtain ⟨sc, a0, a1, a2, a3, a4, a5⟩ := s
                have NT : Hid (∀ w, Calls Try.prog 9 #[stV sc a0 a1 a2 a3 a4 a5, .int .i64 k, .int .i64 n] w fun e w' => e = .returned (.tuple #[stV d b0 b1 b2 b3 b4 b5, .bool false]) ∧ Ext w w') := Lib.hid (by
                  intro w
                  have h := give_any w sc a0 a1 a2 a3 a4 a5 k n
                  rw [h2, h1] at h
                  exact h)
                have hm1 : IntKind.i64.wrap (n * costI k) = n * costI k := IntWalk.i64_in _ (by omega)
                have hm2 : IntKind.i64.wrap (su + n * costI k) = su + n * costI k := IntWalk.i64_in _ (by omega)
                have hm3 : IntKind.i64.wrap (gv + n) = gv + n := IntWalk.i64_in _ (by omega)
                have hm4 : IntKind.i64.wrap (gv - n) = gv - n := IntWalk.i64_in _ (by omega)
                have HZ' := Lib.hid (And.intro hz' hcm')
                clear h1 h2 hgl htl hT hcm2 hnc hgk hz' hcm'
                obtain ⟨c0, c1, c2, c3', c4, c5, c6⟩ := BQ.out.cells
                go_wp2_with fail
                refine (NT.out _).mono ?_
                rintro e w4 ⟨rfl, y⟩
                have BQ := Lib.hid (BQ.out.ext y)
                have SQ := Lib.hid (SQ.out.ext y)
                have hx := hx.trans y
                have hbx : b < w4.heap.size := lt_of_cell BQ.out.cells.1
                have hbs : b + 1 < w4.heap.size := lt_of_cell (SQ.out 0 (by omega)).1
                clear y c0 c1 c2 c3' c4 c5 c6 c3
                obtain ⟨f0, f1, f2, f3, f4, f5, f6⟩ := (BQ.out.ext (Ext.alloc w4 (.cells #[.int .i64 d, .int .i64 b0, .int .i64 b1, .int .i64 b2, .int .i64 b3, .int .i64 b4, .int .i64 b5] 26))).free
                obtain ⟨c0, c1, c2, c3, c4, c5, c6⟩ := (BQ.out.ext (Ext.alloc w4 (.cells #[.int .i64 d, .int .i64 b0, .int .i64 b1, .int .i64 b2, .int .i64 b3, .int .i64 b4, .int .i64 b5] 26))).cells
                obtain ⟨k1, k2⟩ := (SQ.out.ext (Ext.alloc w4 (.cells #[.int .i64 d, .int .i64 b0, .int .i64 b1, .int .i64 b2, .int .i64 b3, .int .i64 b4, .int .i64 b5] 26))).at hki
                obtain ⟨f0', f1', f2', f3', f4', f5', f6'⟩ := BQ.out.free
                obtain ⟨c0', c1', c2', c3', c4', c5', c6'⟩ := BQ.out.cells
                obtain ⟨k1', k2'⟩ := SQ.out.at hki
                rw [← HGV.out] at k1 k1'
                go_wp2_with fail
                have SQ1 : Six w4 (b + 1) ⟨d, b0, b1, b2, b3, b4, b5⟩ := by rw [HT.out]; exact SQ.out
                have BQ1 : Box w4 b ⟨sc, a0, a1, a2, a3, a4, a5⟩ := BQ.out
                have hx1 : Ext w w4 := hx
                have hne : b + 1 ≠ b := by omega
                have BQ : Hid (Box (((((((((w4).setCell ⟨b, 0, none⟩ (.int .i64 d)).setCell ⟨b, 1, none⟩ (.int .i64 b0)).setCell ⟨b, 2, none⟩ (.int .i64 b1)).setCell ⟨b, 3, none⟩ (.int .i64 b2)).setCell ⟨b, 4, none⟩ (.int .i64 b3)).setCell ⟨b, 5, none⟩ (.int .i64 b4)).setCell ⟨b, 6, none⟩ (.int .i64 b5)).alloc (.cells #[.int .i64 d, .int .i64 b0, .int .i64 b1, .int .i64 b2, .int .i64 b3, .int .i64 b4, .int .i64 b5] 26)) b ⟨d, b0, b1, b2, b3, b4, b5⟩) := Lib.hid ((BQ1.put d b0 b1 b2 b3 b4 b5).ext (Ext.alloc _ (.cells #[.int .i64 d, .int .i64 b0, .int .i64 b1, .int .i64 b2, .int .i64 b3, .int .i64 b4, .int .i64 b5] 26)))
                have SQ : Hid (Six (((((((((w4).setCell ⟨b, 0, none⟩ (.int .i64 d)).setCell ⟨b, 1, none⟩ (.int .i64 b0)).setCell ⟨b, 2, none⟩ (.int .i64 b1)).setCell ⟨b, 3, none⟩ (.int .i64 b2)).setCell ⟨b, 4, none⟩ (.int .i64 b3)).setCell ⟨b, 5, none⟩ (.int .i64 b4)).setCell ⟨b, 6, none⟩ (.int .i64 b5)).alloc (.cells #[.int .i64 d, .int .i64 b0, .int .i64 b1, .int .i64 b2, .int .i64 b3, .int .i64 b4, .int .i64 b5] 26)) (b + 1) ⟨d, b0, b1, b2, b3, b4, b5⟩) := Lib.hid ((((((((SQ1.other hne).other hne).other hne).other hne).other hne).other hne).other hne).ext (Ext.alloc _ (.cells #[.int .i64 d, .int .i64 b0, .int .i64 b1, .int .i64 b2, .int .i64 b3, .int .i64 b4, .int .i64 b5] 26)))
                have hx : Ext w (((((((((w4).setCell ⟨b, 0, none⟩ (.int .i64 d)).setCell ⟨b, 1, none⟩ (.int .i64 b0)).setCell ⟨b, 2, none⟩ (.int .i64 b1)).setCell ⟨b, 3, none⟩ (.int .i64 b2)).setCell ⟨b, 4, none⟩ (.int .i64 b3)).setCell ⟨b, 5, none⟩ (.int .i64 b4)).setCell ⟨b, 6, none⟩ (.int .i64 b5)).alloc (.cells #[.int .i64 d, .int .i64 b0, .int .i64 b1, .int .i64 b2, .int .i64 b3, .int .i64 b4, .int .i64 b5] 26)) := (Ext.set (Ext.set (Ext.set (Ext.set (Ext.set (Ext.set (Ext.set hx1 hbw _) hbw _) hbw _) hbw _) hbw _) hbw _) hbw _).al (.cells #[.int .i64 d, .int .i64 b0, .int .i64 b1, .int .i64 b2, .int .i64 b3, .int .i64 b4, .int .i64 b5] 26)
                generalize (((((((((w4).setCell ⟨b, 0, none⟩ (.int .i64 d)).setCell ⟨b, 1, none⟩ (.int .i64 b0)).setCell ⟨b, 2, none⟩ (.int .i64 b1)).setCell ⟨b, 3, none⟩ (.int .i64 b2)).setCell ⟨b, 4, none⟩ (.int .i64 b3)).setCell ⟨b, 5, none⟩ (.int .i64 b4)).setCell ⟨b, 6, none⟩ (.int .i64 b5)).alloc (.cells #[.int .i64 d, .int .i64 b0, .int .i64 b1, .int .i64 b2, .int .i64 b3, .int .i64 b4, .int .i64 b5] 26)) = w6 at *
                clear SQ1 BQ1 hx1 hne c0 c1 c2 c3 c4 c5 c6 f0 f1 f2 f3 f4 f5 f6 k1 k2 c0' c1' c2' c3' c4' c5' c6' f0' f1' f2' f3' f4' f5' f6' k1' k2' hm1 hm2 hm3 hm4 hle
                obtain ⟨T, hTt⟩ : ∃ T : Int, T = S.sum ⟨d, b0, b1, b2, b3, b4, b5⟩ := ⟨_, rfl⟩
                obtain ⟨L, hL⟩ : ∃ T : Int, T = S.load ⟨d, b0, b1, b2, b3, b4, b5⟩ := ⟨_, rfl⟩
                have hLL := load_law ⟨d, b0, b1, b2, b3, b4, b5⟩ HZ'.out.1
                rw [← hL] at hLL
                have HTot := Lib.hid (show S.total ⟨d, b0, b1, b2, b3, b4, b5⟩ = T ∧ S.left ⟨d, b0, b1, b2, b3, b4, b5⟩ = m - T ∧ S.check ⟨d, b0, b1, b2, b3, b4, b5⟩ = 0 from ⟨by rw [total_eq HZ'.out.1, hTt], by rw [left_eq HZ'.out.1, hTt, ← HZ'.out.2], HZ'.out.1⟩)
                have HLo := Lib.hid (show S.load ⟨d, b0, b1, b2, b3, b4, b5⟩ = L from hL.symm)
                have hw : IntKind.i64.wrap (T + (m - T)) = m := by rw [show T + (m - T) = m by omega]; exact IntWalk.i64_in _ (by have := HM.out; omega)
                have hL0 : ¬ L < 0 := by omega
                have hL1 : ¬ 100 < L := by omega
                clear hTt hL hLL
                refine region_held none [(0, true), (1, false), (2, true), (3, true), (4, true), (5, true), (6, true), (7, true), (8, true), (9, true), (10, true), (12, true), (15, true), (11, false), (13, false), (14, true), (16, true), (17, true), (18, true), (19, true), (20, false), (21, true), (22, true), (23, true), (24, true), (25, false), (26, true), (27, true)] [] (by kernel_rfl) (by kernel_rfl) (fun _ _ d _ _ h => by cases d <;> exact h) (fun W hW => ?_)
                simp only [pick, pickF, List.getElem?_cons_zero, List.getElem?_cons_succ]
                have xW : Ext w6 W := hW ▸ Ext.drew _
                have BQ := Lib.hid (BQ.out.ext xW)
                have SQ := Lib.hid (SQ.out.ext xW)
                have hx := hx.trans xW
                clear hW xW
                have xe := Ext.refl W
                refine held_yes (xe.gr _) _ rfl (fun w1 hw1 => by obtain ⟨c0, c1, c2, c3, c4, c5, c6⟩ := BQ.out.seen hw1; unfold Oper.quietAt; go_simp; rfl) ?_
                simp only [Act.put, List.setIfInBounds_toArray, List.set_cons_zero, List.set_cons_succ]
                refine held_step rfl (fun K hK => ?_)
                go_simp
                refine (check_any _ d b0 b1 b2 b3 b4 b5).mono ?_
                rintro e w2' ⟨rfl, x2⟩
                rw [HTot.out.2.2]
                have xe := xe.trans x2
                refine hK _ _ (xe.gr _) ?_
                clear hK K x2
                refine held_yes (xe.gr _) _ rfl (fun w1 hw1 => by unfold Oper.quietAt; go_simp; rfl) ?_
                simp only [Act.put, List.setIfInBounds_toArray, List.set_cons_zero, List.set_cons_succ]
                refine held_yes (xe.gr _) _ rfl (fun w1 hw1 => by unfold Oper.quietAt; go_simp; rfl) ?_
                simp only [Act.put, List.setIfInBounds_toArray, List.set_cons_zero, List.set_cons_succ]
                refine held_yesG (xe.gr _) _ rfl (fun w1 hw1 => by unfold Oper.quietAt; go_simp; rfl) ?_
                simp only [Act.put, List.setIfInBounds_toArray, List.set_cons_zero, List.set_cons_succ]
                refine held_yesG (xe.gr _) _ rfl (fun w1 hw1 => by obtain ⟨c0, c1, c2, c3, c4, c5, c6⟩ := BQ.out.seen hw1; unfold Oper.quietAt; go_simp; rfl) ?_
                simp only [Act.put, List.setIfInBounds_toArray, List.set_cons_zero, List.set_cons_succ]
                refine held_yesG (xe.gr _) _ rfl (fun w1 hw1 => by obtain ⟨c0, c1, c2, c3, c4, c5⟩ := SQ.out.seen hw1; unfold Oper.quietAt; go_simp; rfl) ?_
                simp only [Act.put, List.setIfInBounds_toArray, List.set_cons_zero, List.set_cons_succ]
                refine held_yesG (xe.gr _) _ rfl (fun w1 hw1 => by unfold Oper.quietAt; go_simp; rfl) ?_
                simp only [Act.put, List.setIfInBounds_toArray, List.set_cons_zero, List.set_cons_succ]
                refine held_yes (xe.gr _) _ rfl (fun w1 hw1 => by unfold Oper.quietAt; go_simp; rfl) ?_
                simp only [Act.put, List.setIfInBounds_toArray, List.set_cons_zero, List.set_cons_succ]
                refine held_yes (xe.gr _) _ rfl (fun w1 hw1 => by unfold Oper.quietAt; go_simp; rfl) ?_
                simp only [Act.put, List.setIfInBounds_toArray, List.set_cons_zero, List.set_cons_succ]
                refine held_yesG (xe.gr _) _ rfl (fun w1 hw1 => by obtain ⟨c0, c1, c2, c3, c4, c5, c6⟩ := BQ.out.seen hw1; unfold Oper.quietAt; go_simp; rfl) ?_
                simp only [Act.put, List.setIfInBounds_toArray, List.set_cons_zero, List.set_cons_succ]
                refine held_yesG (xe.gr _) _ rfl (fun w1 hw1 => by obtain ⟨c0, c1, c2, c3, c4, c5, c6⟩ := BQ.out.seen hw1; unfold Oper.quietAt; go_simp; rfl) ?_
                simp only [Act.put, List.setIfInBounds_toArray, List.set_cons_zero, List.set_cons_succ]
                refine held_yesG (xe.gr _) _ rfl (fun w1 hw1 => by unfold Oper.quietAt; go_simp; rfl) ?_
                simp only [Act.put, List.setIfInBounds_toArray, List.set_cons_zero, List.set_cons_succ]
                refine held_stepG rfl (fun K hK => ?_)
                go_simp
                refine (total_any _ d b0 b1 b2 b3 b4 b5).mono ?_
                rintro e w2' ⟨rfl, x2⟩
                rw [HTot.out.1]
                have xe := xe.trans x2
                refine hK _ _ (xe.gr _) ?_
                clear hK K x2
                refine held_stepG rfl (fun K hK => ?_)
                go_simp
                refine (left_any _ d b0 b1 b2 b3 b4 b5).mono ?_
                rintro e w2' ⟨rfl, x2⟩
                rw [HTot.out.2.1]
                have xe := xe.trans x2
                refine hK _ _ (xe.gr _) ?_
                clear hK K x2
                refine held_yesG (xe.gr _) _ rfl (fun w1 hw1 => by unfold Oper.quietAt; go_simp; rfl) ?_
                simp only [Act.put, List.setIfInBounds_toArray, List.set_cons_zero, List.set_cons_succ]
                refine held_yesG (xe.gr _) _ rfl (fun w1 hw1 => by unfold Oper.quietAt; go_simp; rfl) ?_
                simp only [Act.put, List.setIfInBounds_toArray, List.set_cons_zero, List.set_cons_succ]
                refine held_yes (xe.gr _) _ rfl (fun w1 hw1 => by unfold Oper.quietAt; go_simp; rfl) ?_
                simp only [Act.put, List.setIfInBounds_toArray, List.set_cons_zero, List.set_cons_succ]
                refine held_yes (xe.gr _) _ rfl (fun w1 hw1 => by unfold Oper.quietAt; go_simp; rfl) ?_
                simp only [Act.put, List.setIfInBounds_toArray, List.set_cons_zero, List.set_cons_succ]
                refine held_yesG (xe.gr _) _ rfl (fun w1 hw1 => by obtain ⟨c0, c1, c2, c3, c4, c5, c6⟩ := BQ.out.seen hw1; unfold Oper.quietAt; go_simp; rfl) ?_
                simp only [Act.put, List.setIfInBounds_toArray, List.set_cons_zero, List.set_cons_succ]
                refine held_stepG rfl (fun K hK => ?_)
                go_simp
                refine (load_any _ d b0 b1 b2 b3 b4 b5).mono ?_
                rintro e w2' ⟨rfl, x2⟩
                rw [HLo.out]
                have xe := xe.trans x2
                refine hK _ _ (xe.gr _) ?_
                clear hK K x2
                refine held_yesG (xe.gr _) _ rfl (fun w1 hw1 => by unfold Oper.quietAt; go_simp; rfl) ?_
                simp only [Act.put, List.setIfInBounds_toArray, List.set_cons_zero, List.set_cons_succ]
                refine held_yes (xe.gr _) _ rfl (fun w1 hw1 => by unfold Oper.quietAt; go_simp; rfl) ?_
                simp only [Act.put, List.setIfInBounds_toArray, List.set_cons_zero, List.set_cons_succ]
                refine held_yes (xe.gr _) _ rfl (fun w1 hw1 => by unfold Oper.quietAt; go_simp; rfl) ?_
                simp only [Act.put, List.setIfInBounds_toArray, List.set_cons_zero, List.set_cons_succ]
                refine held_yesG (xe.gr _) _ rfl (fun w1 hw1 => by obtain ⟨c0, c1, c2, c3, c4, c5, c6⟩ := BQ.out.seen hw1; unfold Oper.quietAt; go_simp; rfl) ?_
                simp only [Act.put, List.setIfInBounds_toArray, List.set_cons_zero, List.set_cons_succ]
                refine held_stepG rfl (fun K hK => ?_)
                go_simp
                refine (load_any _ d b0 b1 b2 b3 b4 b5).mono ?_
                rintro e w2' ⟨rfl, x2⟩
                rw [HLo.out]
                have xe := xe.trans x2
                refine hK _ _ (xe.gr _) ?_
                clear hK K x2
                refine held_yesG (xe.gr _) _ rfl (fun w1 hw1 => by unfold Oper.quietAt; go_simp; rfl) ?_
                simp only [Act.put, List.setIfInBounds_toArray, List.set_cons_zero, List.set_cons_succ]
                refine held_yes (xe.gr _) _ rfl (fun w1 hw1 => by unfold Oper.quietAt; go_simp; rfl) ?_
                simp only [Act.put, List.setIfInBounds_toArray, List.set_cons_zero, List.set_cons_succ]
                refine held_nil ?_
                go_wp2_with fail
                exact ⟨⟨j + 1, ⟨d, b0, b1, b2, b3, b4, b5⟩, rfl, by omega, BQ.out.ext xe, SQ.out.ext xe, HZ'.out.1, HZ'.out.2, hx.trans xe⟩, by simp [intOf]; omega⟩
      · have hlt2 : ¬ (j : Int) < l.length := by omega
        clear hb hS hz hcm
        go_wp2_with fail
        refine (awake_any _).mono ?_
        rintro e w5 ⟨rfl, y⟩
        go_wp2_with fail
        go_ret
        exact ⟨rfl, hx.trans y⟩

end Go.Proofs.Ytnldfglgdchinaa
