/- What Merge answers. -/
import Derived.Test.YtnldfglgdchinaaJ
namespace Go.Proofs.Ytnldfglgdchinaa
set_option linter.unusedSimpArgs false
set_option linter.unusedVariables false
open Go.RowKit

set_option maxRecDepth 100000 in
set_option maxHeartbeats 20000000 in
theorem merge_any (w : World) (c a0 a1 a2 a3 a4 a5 d b0 b1 b2 b3 b4 b5 : Int) :
    Calls Try.prog 11 #[stV c a0 a1 a2 a3 a4 a5, stV d b0 b1 b2 b3 b4 b5] w fun e w' => e = .returned (.tuple #[S.val (S.merge ⟨c, a0, a1, a2, a3, a4, a5⟩ ⟨d, b0, b1, b2, b3, b4, b5⟩), .int .i64 (S.mergeE ⟨c, a0, a1, a2, a3, a4, a5⟩ ⟨d, b0, b1, b2, b3, b4, b5⟩)]) ∧ Ext w w' := by
  go_enter Try.func11, Try.ntmps11
  go_wp2_with fail
  obtain ⟨w0, hw0⟩ : ∃ w0, w0 = ((w.alloc (.cells #[.int .i64 c, .int .i64 a0, .int .i64 a1, .int .i64 a2, .int .i64 a3, .int .i64 a4, .int .i64 a5] 26)).alloc (.cells #[.int .i64 d, .int .i64 b0, .int .i64 b1, .int .i64 b2, .int .i64 b3, .int .i64 b4, .int .i64 b5] 26)).alloc (.cells #[.int .i64 0, .int .i64 0, .int .i64 0, .int .i64 0, .int .i64 0, .int .i64 0, .int .i64 0] 26) := ⟨_, rfl⟩
  rw [← hw0]
  have x0 : Ext w w0 := hw0 ▸ ((Ext.alloc _ _).al _).al _
  have BA : Hid (Box w0 w.heap.size ⟨c, a0, a1, a2, a3, a4, a5⟩) := Lib.hid (hw0 ▸ (Box.new w 26 c a0 a1 a2 a3 a4 a5).ext ((Ext.alloc _ _).al _))
  have BB : Hid (Box w0 (w.heap.size + 1) ⟨d, b0, b1, b2, b3, b4, b5⟩) := Lib.hid (hw0 ▸ (by simpa using Box.new (w.alloc (.cells #[.int .i64 c, .int .i64 a0, .int .i64 a1, .int .i64 a2, .int .i64 a3, .int .i64 a4, .int .i64 a5] 26)) 26 d b0 b1 b2 b3 b4 b5 : Box ((w.alloc (.cells #[.int .i64 c, .int .i64 a0, .int .i64 a1, .int .i64 a2, .int .i64 a3, .int .i64 a4, .int .i64 a5] 26)).alloc (.cells #[.int .i64 d, .int .i64 b0, .int .i64 b1, .int .i64 b2, .int .i64 b3, .int .i64 b4, .int .i64 b5] 26)) (w.heap.size + 1) ⟨d, b0, b1, b2, b3, b4, b5⟩).ext (Ext.alloc _ _))
  have BR : Hid (Box w0 (w.heap.size + 1 + 1) ⟨0, 0, 0, 0, 0, 0, 0⟩) := Lib.hid (hw0 ▸ by simpa using Box.new ((w.alloc (.cells #[.int .i64 c, .int .i64 a0, .int .i64 a1, .int .i64 a2, .int .i64 a3, .int .i64 a4, .int .i64 a5] 26)).alloc (.cells #[.int .i64 d, .int .i64 b0, .int .i64 b1, .int .i64 b2, .int .i64 b3, .int .i64 b4, .int .i64 b5] 26)) 26 0 0 0 0 0 0 0)
  clear hw0
  obtain ⟨p0, p1, p2, p3, p4, p5, p6⟩ := BA.out.cells
  obtain ⟨q0, q1, q2, q3, q4, q5, q6⟩ := BB.out.cells
  refine (check_any _ c a0 a1 a2 a3 a4 a5).mono ?_
  rintro e wc ⟨rfl, xc⟩
  have BA := Lib.hid (BA.out.ext xc)
  have BB := Lib.hid (BB.out.ext xc)
  have BR := Lib.hid (BR.out.ext xc)
  have x0 := x0.trans xc
  clear xc p0 p1 p2 p3 p4 p5 p6 q0 q1 q2 q3 q4 q5 q6
  obtain ⟨p0, p1, p2, p3, p4, p5, p6⟩ := BA.out.cells
  obtain ⟨q0, q1, q2, q3, q4, q5, q6⟩ := BB.out.cells
  by_cases hz : S.check ⟨c, a0, a1, a2, a3, a4, a5⟩ = 0
  case' neg =>
    have hE : S.mergeE ⟨c, a0, a1, a2, a3, a4, a5⟩ ⟨d, b0, b1, b2, b3, b4, b5⟩ = S.check ⟨c, a0, a1, a2, a3, a4, a5⟩ := if_pos hz
    have HN := Lib.hid (show S.merge ⟨c, a0, a1, a2, a3, a4, a5⟩ ⟨d, b0, b1, b2, b3, b4, b5⟩ = ⟨0, 0, 0, 0, 0, 0, 0⟩ ∧ S.mergeE ⟨c, a0, a1, a2, a3, a4, a5⟩ ⟨d, b0, b1, b2, b3, b4, b5⟩ = S.check ⟨c, a0, a1, a2, a3, a4, a5⟩ from ⟨by unfold S.merge; rw [if_neg (by rw [hE]; omega)], hE⟩)
    clear hE
    obtain ⟨z, hzz⟩ : ∃ z, S.check ⟨c, a0, a1, a2, a3, a4, a5⟩ = z := ⟨_, rfl⟩
    rw [hzz] at hz HN ⊢
    have HZZ := Lib.hid hzz
    clear hzz
    obtain ⟨r0, r1, r2, r3, r4, r5, r6⟩ := BR.out.cells
    obtain ⟨f0, f1, f2, f3, f4, f5, f6⟩ := BR.out.free
    go_wp2_with fail
    refine bodyPost_ret (v := .tuple #[stV 0 0 0 0 0 0 0, .int .i64 z]) (by simp [results, Try.results11, go_sem, r0, r1, r2, r3, r4, r5, r6, f0, f1, f2, f3, f4, f5, f6]) rfl ⟨by rw [HN.out.1, HN.out.2], ?_⟩
    repeat refine Ext.set ?_ (by omega) _
    exact x0
  case' pos =>
    obtain ⟨⟨m0, m1, m2, m3, m4, m5⟩, hac, has⟩ := may hz
    have Hm0 := Lib.hid m0
    have Hm1 := Lib.hid m1
    have Hm2 := Lib.hid m2
    have Hm3 := Lib.hid m3
    have Hm4 := Lib.hid m4
    have Hm5 := Lib.hid m5
    clear m0 m1 m2 m3 m4 m5
    rw [hz]
    have HA := Lib.hid hz
    clear hz
    go_wp2_with fail
    refine (check_any _ d b0 b1 b2 b3 b4 b5).mono ?_
    rintro e wc ⟨rfl, xc⟩
    have BA := Lib.hid (BA.out.ext xc)
    have BB := Lib.hid (BB.out.ext xc)
    have BR := Lib.hid (BR.out.ext xc)
    have x0 := x0.trans xc
    clear xc p0 p1 p2 p3 p4 p5 p6 q0 q1 q2 q3 q4 q5 q6
    obtain ⟨p0, p1, p2, p3, p4, p5, p6⟩ := BA.out.cells
    obtain ⟨q0, q1, q2, q3, q4, q5, q6⟩ := BB.out.cells
    by_cases hz : S.check ⟨d, b0, b1, b2, b3, b4, b5⟩ = 0
    case' neg =>
      have hE : S.mergeE ⟨c, a0, a1, a2, a3, a4, a5⟩ ⟨d, b0, b1, b2, b3, b4, b5⟩ = S.check ⟨d, b0, b1, b2, b3, b4, b5⟩ := by unfold S.mergeE; rw [if_neg (fun h => h HA.out), if_pos hz]
      have HN := Lib.hid (show S.merge ⟨c, a0, a1, a2, a3, a4, a5⟩ ⟨d, b0, b1, b2, b3, b4, b5⟩ = ⟨0, 0, 0, 0, 0, 0, 0⟩ ∧ S.mergeE ⟨c, a0, a1, a2, a3, a4, a5⟩ ⟨d, b0, b1, b2, b3, b4, b5⟩ = S.check ⟨d, b0, b1, b2, b3, b4, b5⟩ from ⟨by unfold S.merge; rw [if_neg (by rw [hE]; omega)], hE⟩)
      clear hE
      obtain ⟨z, hzz⟩ : ∃ z, S.check ⟨d, b0, b1, b2, b3, b4, b5⟩ = z := ⟨_, rfl⟩
      rw [hzz] at hz HN ⊢
      have HZZ := Lib.hid hzz
      clear hzz
      obtain ⟨r0, r1, r2, r3, r4, r5, r6⟩ := BR.out.cells
      obtain ⟨f0, f1, f2, f3, f4, f5, f6⟩ := BR.out.free
      go_wp2_with fail
      refine bodyPost_ret (v := .tuple #[stV 0 0 0 0 0 0 0, .int .i64 z]) (by simp [results, Try.results11, go_sem, r0, r1, r2, r3, r4, r5, r6, f0, f1, f2, f3, f4, f5, f6]) rfl ⟨by rw [HN.out.1, HN.out.2], ?_⟩
      repeat refine Ext.set ?_ (by omega) _
      exact x0
    case' pos =>
      obtain ⟨⟨k0, k1, k2, k3, k4, k5⟩, hbc, hbs⟩ := may hz
      have Hk0 := Lib.hid k0
      have Hk1 := Lib.hid k1
      have Hk2 := Lib.hid k2
      have Hk3 := Lib.hid k3
      have Hk4 := Lib.hid k4
      have Hk5 := Lib.hid k5
      clear k0 k1 k2 k3 k4 k5
      rw [hz]
      have HB := Lib.hid hz
      clear hz
      by_cases hcd : c = d
      case' neg =>
        have hE : S.mergeE ⟨c, a0, a1, a2, a3, a4, a5⟩ ⟨d, b0, b1, b2, b3, b4, b5⟩ = 2 := by unfold S.mergeE; rw [if_neg (fun h => h HA.out), if_neg (fun h => h HB.out), if_pos hcd]
        have HN := Lib.hid (show S.merge ⟨c, a0, a1, a2, a3, a4, a5⟩ ⟨d, b0, b1, b2, b3, b4, b5⟩ = ⟨0, 0, 0, 0, 0, 0, 0⟩ ∧ S.mergeE ⟨c, a0, a1, a2, a3, a4, a5⟩ ⟨d, b0, b1, b2, b3, b4, b5⟩ = 2 from ⟨by unfold S.merge; rw [if_neg (by rw [hE]; omega)], hE⟩)
        clear hE
        have hcb : (c != d) = true := by simpa using hcd
        obtain ⟨r0, r1, r2, r3, r4, r5, r6⟩ := BR.out.cells
        obtain ⟨f0, f1, f2, f3, f4, f5, f6⟩ := BR.out.free
        go_wp2_with fail
        refine bodyPost_ret (v := .tuple #[stV 0 0 0 0 0 0 0, .int .i64 2]) (by simp [results, Try.results11, go_sem, r0, r1, r2, r3, r4, r5, r6, f0, f1, f2, f3, f4, f5, f6]) rfl ⟨by rw [HN.out.1, HN.out.2], ?_⟩
        repeat refine Ext.set ?_ (by omega) _
        exact x0
      case' pos =>
        subst hcd
        go_wp2_with fail
        refine region_held none [(0, true), (2, true), (1, false), (3, false), (4, true)] [5] (by kernel_rfl) (by kernel_rfl) (fun _ _ d _ _ h => by cases d <;> exact h) (fun W hW => ?_)
        simp only [pick, pickF, List.getElem?_cons_zero, List.getElem?_cons_succ]
        have xd : Ext wc W := by rw [hW]; exact Ext.drew _
        have BA := Lib.hid (BA.out.ext xd)
        have BB := Lib.hid (BB.out.ext xd)
        have BR := Lib.hid (BR.out.ext xd)
        have x0 := x0.trans xd
        clear xd p0 p1 p2 p3 p4 p5 p6 q0 q1 q2 q3 q4 q5 q6
        obtain ⟨p0, p1, p2, p3, p4, p5, p6⟩ := BA.out.cells
        obtain ⟨q0, q1, q2, q3, q4, q5, q6⟩ := BB.out.cells
        clear hW
        have u0 : ∀ w1, Gr none W w1 → w1.cell? _ = _ := fun w1 h => h.cell_some p0 (by simp)
        have u1 : ∀ w1, Gr none W w1 → w1.cell? _ = _ := fun w1 h => h.cell_some p1 (by simp)
        have u2 : ∀ w1, Gr none W w1 → w1.cell? _ = _ := fun w1 h => h.cell_some p2 (by simp)
        have u3 : ∀ w1, Gr none W w1 → w1.cell? _ = _ := fun w1 h => h.cell_some p3 (by simp)
        have u4 : ∀ w1, Gr none W w1 → w1.cell? _ = _ := fun w1 h => h.cell_some p4 (by simp)
        have u5 : ∀ w1, Gr none W w1 → w1.cell? _ = _ := fun w1 h => h.cell_some p5 (by simp)
        have u6 : ∀ w1, Gr none W w1 → w1.cell? _ = _ := fun w1 h => h.cell_some p6 (by simp)
        have v0 : ∀ w1, Gr none W w1 → w1.cell? _ = _ := fun w1 h => h.cell_some q0 (by simp)
        have v1 : ∀ w1, Gr none W w1 → w1.cell? _ = _ := fun w1 h => h.cell_some q1 (by simp)
        have v2 : ∀ w1, Gr none W w1 → w1.cell? _ = _ := fun w1 h => h.cell_some q2 (by simp)
        have v3 : ∀ w1, Gr none W w1 → w1.cell? _ = _ := fun w1 h => h.cell_some q3 (by simp)
        have v4 : ∀ w1, Gr none W w1 → w1.cell? _ = _ := fun w1 h => h.cell_some q4 (by simp)
        have v5 : ∀ w1, Gr none W w1 → w1.cell? _ = _ := fun w1 h => h.cell_some q5 (by simp)
        have v6 : ∀ w1, Gr none W w1 → w1.cell? _ = _ := fun w1 h => h.cell_some q6 (by simp)
        have hgr := Gr.refl none W
        iterate 2
          refine held_yes hgr _ rfl (fun w1 hw1 => by unfold Oper.quietAt; go_simp; rfl) ?_
          simp only [Act.put, List.setIfInBounds_toArray, List.set_cons_zero, List.set_cons_succ]
        refine held_step rfl (fun K hK => ?_)
        go_simp
        refine (sum_any W c a0 a1 a2 a3 a4 a5 Hm0.out Hm1.out Hm2.out Hm3.out Hm4.out Hm5.out).mono ?_
        rintro e w2 ⟨rfl, x2⟩
        refine hK _ _ (x2.gr _) ?_
        clear hK K
        refine held_step rfl (fun K hK => ?_)
        go_simp
        refine (left_any w2 c b0 b1 b2 b3 b4 b5).mono ?_
        rintro e w3 ⟨rfl, x3⟩
        have x3 := x2.trans x3
        refine hK _ _ (x3.gr _) ?_
        clear hK K x2
        have hl : S.left ⟨c, b0, b1, b2, b3, b4, b5⟩ = c - psum b0 b1 b2 b3 b4 b5 6 := if_pos HB.out
        have Es : S.sum ⟨c, a0, a1, a2, a3, a4, a5⟩ = psum a0 a1 a2 a3 a4 a5 6 := rfl
        have HL := Lib.hid hl
        have HS := Lib.hid Es
        rw [hl]
        clear hl Es
        obtain ⟨s, hs⟩ : ∃ s, psum a0 a1 a2 a3 a4 a5 6 = s := ⟨_, rfl⟩
        obtain ⟨v, hv⟩ : ∃ v, psum b0 b1 b2 b3 b4 b5 6 = v := ⟨_, rfl⟩
        rw [hs, hv]
        rw [hs] at has HS
        rw [hv] at hbs HL
        clear hs hv
        have hth : c < s + v ↔ c - v < s := by omega
        have HTH := Lib.hid hth
        clear hth
        by_cases ht : c - v < s
        case' neg =>
          have hE : S.mergeE ⟨c, a0, a1, a2, a3, a4, a5⟩ ⟨c, b0, b1, b2, b3, b4, b5⟩ = 0 := by unfold S.mergeE; rw [if_neg (fun h => h HA.out), if_neg (fun h => h HB.out), if_neg (fun h => h rfl), if_neg (by rw [HL.out, HS.out]; have := HTH.out; omega)]
          have HN := Lib.hid (show S.merge ⟨c, a0, a1, a2, a3, a4, a5⟩ ⟨c, b0, b1, b2, b3, b4, b5⟩ = S.plus ⟨c, a0, a1, a2, a3, a4, a5⟩ ⟨c, b0, b1, b2, b3, b4, b5⟩ ∧ S.mergeE ⟨c, a0, a1, a2, a3, a4, a5⟩ ⟨c, b0, b1, b2, b3, b4, b5⟩ = 0 from ⟨by unfold S.merge; rw [if_pos hE], hE⟩)
          clear hE
        case' pos =>
          have hE : S.mergeE ⟨c, a0, a1, a2, a3, a4, a5⟩ ⟨c, b0, b1, b2, b3, b4, b5⟩ = 7 := by unfold S.mergeE; rw [if_neg (fun h => h HA.out), if_neg (fun h => h HB.out), if_neg (fun h => h rfl), if_pos (by rw [HL.out, HS.out]; have := HTH.out; omega)]
          have HN := Lib.hid (show S.merge ⟨c, a0, a1, a2, a3, a4, a5⟩ ⟨c, b0, b1, b2, b3, b4, b5⟩ = ⟨0, 0, 0, 0, 0, 0, 0⟩ ∧ S.mergeE ⟨c, a0, a1, a2, a3, a4, a5⟩ ⟨c, b0, b1, b2, b3, b4, b5⟩ = 7 from ⟨by unfold S.merge; rw [if_neg (by rw [hE]; omega)], hE⟩)
          clear hE
        all_goals
          iterate 1
            refine held_yes (x3.gr _) _ rfl (fun w1 hw1 => by unfold Oper.quietAt; go_simp; rfl) ?_
            simp only [Act.put, List.setIfInBounds_toArray, List.set_cons_zero, List.set_cons_succ]
          refine held_nil ?_
          clear u0 v0 u1 v1 u2 v2 u3 v3 u4 v4 u5 v5 u6 v6
          have BA := Lib.hid (BA.out.ext x3)
          have BB := Lib.hid (BB.out.ext x3)
          have BR := Lib.hid (BR.out.ext x3)
          have x0 := x0.trans x3
          clear x3 p0 p1 p2 p3 p4 p5 p6 q0 q1 q2 q3 q4 q5 q6
          obtain ⟨p0, p1, p2, p3, p4, p5, p6⟩ := BA.out.cells
          obtain ⟨q0, q1, q2, q3, q4, q5, q6⟩ := BB.out.cells
        case' pos =>
          obtain ⟨r0, r1, r2, r3, r4, r5, r6⟩ := BR.out.cells
          obtain ⟨f0, f1, f2, f3, f4, f5, f6⟩ := BR.out.free
          go_wp2_with fail
          refine bodyPost_ret (v := .tuple #[stV 0 0 0 0 0 0 0, .int .i64 7]) (by simp [results, Try.results11, go_sem, r0, r1, r2, r3, r4, r5, r6, f0, f1, f2, f3, f4, f5, f6]) rfl ⟨by rw [HN.out.1, HN.out.2], ?_⟩
          repeat refine Ext.set ?_ (by omega) _
          exact x0
        case' neg =>
          go_wp2_with fail
          clear p0 p1 p2 p3 p4 p5 p6 q0 q1 q2 q3 q4 q5 q6
          go_loopw [38] (fun i wr => ∃ k : Nat, i = .int .i64 k ∧ k ≤ 6 ∧ Hid (Box wr w.heap.size (plusK c a0 a1 a2 a3 a4 a5 b0 b1 b2 b3 b4 b5 k)) ∧ Hid (Box wr (w.heap.size + 1 + 1) ⟨0, 0, 0, 0, 0, 0, 0⟩) ∧ Ext w wr) (fun i _ => 6 - (intOf i).toNat)
          case atStart => exact ⟨0, rfl, by omega, BA, BR, x0⟩
          case round =>
            clear BA BR BB x0
            obtain ⟨k, rfl, hk, BA, BR, x0⟩ := hrel
            rcases (by omega : k = 0 ∨ k = 1 ∨ k = 2 ∨ k = 3 ∨ k = 4 ∨ k = 5 ∨ k = 6) with rfl | rfl | rfl | rfl | rfl | rfl | rfl
            · have BA : Hid (Box wr w.heap.size ⟨c, a0, a1, a2, a3, a4, a5⟩) := BA
              obtain ⟨p0, p1, p2, p3, p4, p5, p6⟩ := BA.out.cells
              have g := BA.out.free.2.1
              have hwr : IntKind.i64.wrap (a0 + b0) = a0 + b0 := IntWalk.i64_in _ (by have := ok_bound Hm0.out; have := ok_bound Hk0.out; omega)
              go_wp2_with fail
              exact ⟨⟨1, rfl, by omega, Lib.hid (BA.out.put0 _), Lib.hid (BR.out.other (by omega)), x0.set (by omega) _⟩, by simp [intOf]⟩
            · have BA : Hid (Box wr w.heap.size ⟨c, a0 + b0, a1, a2, a3, a4, a5⟩) := BA
              obtain ⟨p0, p1, p2, p3, p4, p5, p6⟩ := BA.out.cells
              have g := BA.out.free.2.2.1
              have hwr : IntKind.i64.wrap (a1 + b1) = a1 + b1 := IntWalk.i64_in _ (by have := ok_bound Hm1.out; have := ok_bound Hk1.out; omega)
              go_wp2_with fail
              exact ⟨⟨2, rfl, by omega, Lib.hid (BA.out.put1 _), Lib.hid (BR.out.other (by omega)), x0.set (by omega) _⟩, by simp [intOf]⟩
            · have BA : Hid (Box wr w.heap.size ⟨c, a0 + b0, a1 + b1, a2, a3, a4, a5⟩) := BA
              obtain ⟨p0, p1, p2, p3, p4, p5, p6⟩ := BA.out.cells
              have g := BA.out.free.2.2.2.1
              have hwr : IntKind.i64.wrap (a2 + b2) = a2 + b2 := IntWalk.i64_in _ (by have := ok_bound Hm2.out; have := ok_bound Hk2.out; omega)
              go_wp2_with fail
              exact ⟨⟨3, rfl, by omega, Lib.hid (BA.out.put2 _), Lib.hid (BR.out.other (by omega)), x0.set (by omega) _⟩, by simp [intOf]⟩
            · have BA : Hid (Box wr w.heap.size ⟨c, a0 + b0, a1 + b1, a2 + b2, a3, a4, a5⟩) := BA
              obtain ⟨p0, p1, p2, p3, p4, p5, p6⟩ := BA.out.cells
              have g := BA.out.free.2.2.2.2.1
              have hwr : IntKind.i64.wrap (a3 + b3) = a3 + b3 := IntWalk.i64_in _ (by have := ok_bound Hm3.out; have := ok_bound Hk3.out; omega)
              go_wp2_with fail
              exact ⟨⟨4, rfl, by omega, Lib.hid (BA.out.put3 _), Lib.hid (BR.out.other (by omega)), x0.set (by omega) _⟩, by simp [intOf]⟩
            · have BA : Hid (Box wr w.heap.size ⟨c, a0 + b0, a1 + b1, a2 + b2, a3 + b3, a4, a5⟩) := BA
              obtain ⟨p0, p1, p2, p3, p4, p5, p6⟩ := BA.out.cells
              have g := BA.out.free.2.2.2.2.2.1
              have hwr : IntKind.i64.wrap (a4 + b4) = a4 + b4 := IntWalk.i64_in _ (by have := ok_bound Hm4.out; have := ok_bound Hk4.out; omega)
              go_wp2_with fail
              exact ⟨⟨5, rfl, by omega, Lib.hid (BA.out.put4 _), Lib.hid (BR.out.other (by omega)), x0.set (by omega) _⟩, by simp [intOf]⟩
            · have BA : Hid (Box wr w.heap.size ⟨c, a0 + b0, a1 + b1, a2 + b2, a3 + b3, a4 + b4, a5⟩) := BA
              obtain ⟨p0, p1, p2, p3, p4, p5, p6⟩ := BA.out.cells
              have g := BA.out.free.2.2.2.2.2.2
              have hwr : IntKind.i64.wrap (a5 + b5) = a5 + b5 := IntWalk.i64_in _ (by have := ok_bound Hm5.out; have := ok_bound Hk5.out; omega)
              go_wp2_with fail
              exact ⟨⟨6, rfl, by omega, Lib.hid (BA.out.put5 _), Lib.hid (BR.out.other (by omega)), x0.set (by omega) _⟩, by simp [intOf]⟩
            · have BA : Hid (Box wr w.heap.size ⟨c, a0 + b0, a1 + b1, a2 + b2, a3 + b3, a4 + b4, a5 + b5⟩) := BA
              obtain ⟨p0, p1, p2, p3, p4, p5, p6⟩ := BA.out.cells
              obtain ⟨r0, r1, r2, r3, r4, r5, r6⟩ := BR.out.cells
              obtain ⟨f0, f1, f2, f3, f4, f5, f6⟩ := BR.out.free
              go_wp2_with fail
              refine bodyPost_ret (v := .tuple #[stV c (a0 + b0) (a1 + b1) (a2 + b2) (a3 + b3) (a4 + b4) (a5 + b5), .int .i64 0]) (by simp [results, Try.results11, go_sem, r0, r1, r2, r3, r4, r5, r6, f0, f1, f2, f3, f4, f5, f6, p0, p1, p2, p3, p4, p5, p6]) rfl ⟨by rw [HN.out.1, HN.out.2]; rfl, ?_⟩
              repeat refine Ext.set ?_ (by omega) _
              exact x0

end Go.Proofs.Ytnldfglgdchinaa
