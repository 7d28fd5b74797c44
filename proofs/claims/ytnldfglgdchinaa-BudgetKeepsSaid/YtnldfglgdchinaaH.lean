/- What give_any answers. -/
import Derived.Test.YtnldfglgdchinaaG
namespace Go.Proofs.Ytnldfglgdchinaa
set_option linter.unusedSimpArgs false
set_option linter.unusedVariables false
open Go.RowKit

set_option maxRecDepth 100000 in
set_option maxHeartbeats 20000000 in
theorem give_any (w : World) (c a0 a1 a2 a3 a4 a5 k n : Int) :
    Calls Try.prog 9 #[stV c a0 a1 a2 a3 a4 a5, .int .i64 k, .int .i64 n] w fun e w' => e = .returned (.tuple #[S.val (S.give ⟨c, a0, a1, a2, a3, a4, a5⟩ k n), .bool (S.gives ⟨c, a0, a1, a2, a3, a4, a5⟩ k n)]) ∧ Ext w w' := by
  go_enter Try.func9, Try.ntmps9
  go_wp2_with fail
  obtain ⟨w0, hw0⟩ : ∃ w0, w0 = (w.alloc (.cells #[.int .i64 c, .int .i64 a0, .int .i64 a1, .int .i64 a2, .int .i64 a3, .int .i64 a4, .int .i64 a5] 26)).alloc (.cells #[.int .i64 0, .int .i64 0, .int .i64 0, .int .i64 0, .int .i64 0, .int .i64 0, .int .i64 0] 26) := ⟨_, rfl⟩
  rw [← hw0]
  have x0 : Ext w w0 := hw0 ▸ (Ext.alloc _ _).al _
  have BS : Hid (Box w0 w.heap.size ⟨c, a0, a1, a2, a3, a4, a5⟩) := Lib.hid (hw0 ▸ (Box.new w 26 c a0 a1 a2 a3 a4 a5).ext (Ext.alloc _ _))
  have BR : Hid (Box w0 (w.heap.size + 1) ⟨0, 0, 0, 0, 0, 0, 0⟩) := Lib.hid (hw0 ▸ by simpa using Box.new (w.alloc (.cells #[.int .i64 c, .int .i64 a0, .int .i64 a1, .int .i64 a2, .int .i64 a3, .int .i64 a4, .int .i64 a5] 26)) 26 0 0 0 0 0 0 0)
  clear hw0
  obtain ⟨c0, c1, c2, c3, c4, c5, c6⟩ := BS.out.cells
  refine (is_any _ _).mono ?_
  rintro e wi ⟨rfl, hw⟩
  rw [hw]
  clear hw wi
  by_cases hi : inB k 0 5 = true
  case' neg =>
    have hno : S.gives ⟨c, a0, a1, a2, a3, a4, a5⟩ k n = false := by unfold S.gives; rw [show inB k 0 5 = false by simpa using hi]; simp
    have HN := Lib.hid (show S.give ⟨c, a0, a1, a2, a3, a4, a5⟩ k n = ⟨c, a0, a1, a2, a3, a4, a5⟩ ∧ S.gives ⟨c, a0, a1, a2, a3, a4, a5⟩ k n = false from ⟨by unfold S.give; rw [if_neg (by rw [hno]; simp)], hno⟩)
    clear hno
    have hi : inB k 0 5 = false := by simpa using hi
    rw [hi]
    clear hi
    obtain ⟨r0, r1, r2, r3, r4, r5, r6⟩ := BR.out.cells
    obtain ⟨f0, f1, f2, f3, f4, f5, f6⟩ := BR.out.free
    go_wp2_with fail
    refine bodyPost_ret (v := .tuple #[stV c a0 a1 a2 a3 a4 a5, .bool false]) (by simp [results, Try.results9, go_sem, r0, r1, r2, r3, r4, r5, r6, f0, f1, f2, f3, f4, f5, f6]) rfl ⟨by rw [HN.out.1, HN.out.2], ?_⟩
    repeat refine Ext.set ?_ (by omega) _
    exact x0
  case' pos =>
    rw [hi]
    by_cases hn : 0 ≤ n
    case' neg =>
      have hno : S.gives ⟨c, a0, a1, a2, a3, a4, a5⟩ k n = false := by unfold S.gives; rw [show decide (0 ≤ n) = false by simpa using hn]; simp
      have HN := Lib.hid (show S.give ⟨c, a0, a1, a2, a3, a4, a5⟩ k n = ⟨c, a0, a1, a2, a3, a4, a5⟩ ∧ S.gives ⟨c, a0, a1, a2, a3, a4, a5⟩ k n = false from ⟨by unfold S.give; rw [if_neg (by rw [hno]; simp)], hno⟩)
      clear hno
      obtain ⟨r0, r1, r2, r3, r4, r5, r6⟩ := BR.out.cells
      obtain ⟨f0, f1, f2, f3, f4, f5, f6⟩ := BR.out.free
      go_wp2_with fail
      refine bodyPost_ret (v := .tuple #[stV c a0 a1 a2 a3 a4 a5, .bool false]) (by simp [results, Try.results9, go_sem, r0, r1, r2, r3, r4, r5, r6, f0, f1, f2, f3, f4, f5, f6]) rfl ⟨by rw [HN.out.1, HN.out.2], ?_⟩
      repeat refine Ext.set ?_ (by omega) _
      exact x0
    case' pos =>
      go_wp2_with fail
      refine (check_any _ c a0 a1 a2 a3 a4 a5).mono ?_
      rintro e wc ⟨rfl, xc⟩
      have BS := Lib.hid (BS.out.ext xc)
      have BR := Lib.hid (BR.out.ext xc)
      have x0 := x0.trans xc
      clear xc c0 c1 c2 c3 c4 c5 c6
      obtain ⟨c0, c1, c2, c3, c4, c5, c6⟩ := BS.out.cells
      by_cases hz : S.check ⟨c, a0, a1, a2, a3, a4, a5⟩ = 0
      case' neg =>
        have hno : S.gives ⟨c, a0, a1, a2, a3, a4, a5⟩ k n = false := by unfold S.gives; rw [show decide (S.check ⟨c, a0, a1, a2, a3, a4, a5⟩ = 0) = false by simpa using hz]; simp
        have HN := Lib.hid (show S.give ⟨c, a0, a1, a2, a3, a4, a5⟩ k n = ⟨c, a0, a1, a2, a3, a4, a5⟩ ∧ S.gives ⟨c, a0, a1, a2, a3, a4, a5⟩ k n = false from ⟨by unfold S.give; rw [if_neg (by rw [hno]; simp)], hno⟩)
        clear hno
        generalize S.check ⟨c, a0, a1, a2, a3, a4, a5⟩ = z at *
        obtain ⟨r0, r1, r2, r3, r4, r5, r6⟩ := BR.out.cells
        obtain ⟨f0, f1, f2, f3, f4, f5, f6⟩ := BR.out.free
        go_wp2_with fail
        refine bodyPost_ret (v := .tuple #[stV c a0 a1 a2 a3 a4 a5, .bool false]) (by simp [results, Try.results9, go_sem, r0, r1, r2, r3, r4, r5, r6, f0, f1, f2, f3, f4, f5, f6]) rfl ⟨by rw [HN.out.1, HN.out.2], ?_⟩
        repeat refine Ext.set ?_ (by omega) _
        exact x0
      case' pos =>
        obtain ⟨⟨m0, m1, m2, m3, m4, m5⟩, hc, hs⟩ := may hz
        have m0 := ok_bound m0
        have m1 := ok_bound m1
        have m2 := ok_bound m2
        have m3 := ok_bound m3
        have m4 := ok_bound m4
        have m5 := ok_bound m5
        rw [hz]
        have HZ := Lib.hid hz
        clear hz
        by_cases hf : n ≤ S.get ⟨c, a0, a1, a2, a3, a4, a5⟩ k
        case' neg =>
          have hno : S.gives ⟨c, a0, a1, a2, a3, a4, a5⟩ k n = false := by unfold S.gives; rw [show decide (n ≤ S.get ⟨c, a0, a1, a2, a3, a4, a5⟩ k) = false by simpa using hf]; simp
          have HN := Lib.hid (show S.give ⟨c, a0, a1, a2, a3, a4, a5⟩ k n = ⟨c, a0, a1, a2, a3, a4, a5⟩ ∧ S.gives ⟨c, a0, a1, a2, a3, a4, a5⟩ k n = false from ⟨by unfold S.give; rw [if_neg (by rw [hno]; simp)], hno⟩)
          clear hno
          rcases (by simp [inB] at hi; omega : k = 0 ∨ k = 1 ∨ k = 2 ∨ k = 3 ∨ k = 4 ∨ k = 5) with rfl | rfl | rfl | rfl | rfl | rfl
          · have hf : ¬ n ≤ a0 := hf
            clear hi
            obtain ⟨r0, r1, r2, r3, r4, r5, r6⟩ := BR.out.cells
            obtain ⟨f0, f1, f2, f3, f4, f5, f6⟩ := BR.out.free
            go_wp2_with fail
            refine bodyPost_ret (v := .tuple #[stV c a0 a1 a2 a3 a4 a5, .bool false]) (by simp [results, Try.results9, go_sem, r0, r1, r2, r3, r4, r5, r6, f0, f1, f2, f3, f4, f5, f6]) rfl ⟨by rw [HN.out.1, HN.out.2], ?_⟩
            repeat refine Ext.set ?_ (by omega) _
            exact x0
          · have hf : ¬ n ≤ a1 := hf
            clear hi
            obtain ⟨r0, r1, r2, r3, r4, r5, r6⟩ := BR.out.cells
            obtain ⟨f0, f1, f2, f3, f4, f5, f6⟩ := BR.out.free
            go_wp2_with fail
            refine bodyPost_ret (v := .tuple #[stV c a0 a1 a2 a3 a4 a5, .bool false]) (by simp [results, Try.results9, go_sem, r0, r1, r2, r3, r4, r5, r6, f0, f1, f2, f3, f4, f5, f6]) rfl ⟨by rw [HN.out.1, HN.out.2], ?_⟩
            repeat refine Ext.set ?_ (by omega) _
            exact x0
          · have hf : ¬ n ≤ a2 := hf
            clear hi
            obtain ⟨r0, r1, r2, r3, r4, r5, r6⟩ := BR.out.cells
            obtain ⟨f0, f1, f2, f3, f4, f5, f6⟩ := BR.out.free
            go_wp2_with fail
            refine bodyPost_ret (v := .tuple #[stV c a0 a1 a2 a3 a4 a5, .bool false]) (by simp [results, Try.results9, go_sem, r0, r1, r2, r3, r4, r5, r6, f0, f1, f2, f3, f4, f5, f6]) rfl ⟨by rw [HN.out.1, HN.out.2], ?_⟩
            repeat refine Ext.set ?_ (by omega) _
            exact x0
          · have hf : ¬ n ≤ a3 := hf
            clear hi
            obtain ⟨r0, r1, r2, r3, r4, r5, r6⟩ := BR.out.cells
            obtain ⟨f0, f1, f2, f3, f4, f5, f6⟩ := BR.out.free
            go_wp2_with fail
            refine bodyPost_ret (v := .tuple #[stV c a0 a1 a2 a3 a4 a5, .bool false]) (by simp [results, Try.results9, go_sem, r0, r1, r2, r3, r4, r5, r6, f0, f1, f2, f3, f4, f5, f6]) rfl ⟨by rw [HN.out.1, HN.out.2], ?_⟩
            repeat refine Ext.set ?_ (by omega) _
            exact x0
          · have hf : ¬ n ≤ a4 := hf
            clear hi
            obtain ⟨r0, r1, r2, r3, r4, r5, r6⟩ := BR.out.cells
            obtain ⟨f0, f1, f2, f3, f4, f5, f6⟩ := BR.out.free
            go_wp2_with fail
            refine bodyPost_ret (v := .tuple #[stV c a0 a1 a2 a3 a4 a5, .bool false]) (by simp [results, Try.results9, go_sem, r0, r1, r2, r3, r4, r5, r6, f0, f1, f2, f3, f4, f5, f6]) rfl ⟨by rw [HN.out.1, HN.out.2], ?_⟩
            repeat refine Ext.set ?_ (by omega) _
            exact x0
          · have hf : ¬ n ≤ a5 := hf
            clear hi
            obtain ⟨r0, r1, r2, r3, r4, r5, r6⟩ := BR.out.cells
            obtain ⟨f0, f1, f2, f3, f4, f5, f6⟩ := BR.out.free
            go_wp2_with fail
            refine bodyPost_ret (v := .tuple #[stV c a0 a1 a2 a3 a4 a5, .bool false]) (by simp [results, Try.results9, go_sem, r0, r1, r2, r3, r4, r5, r6, f0, f1, f2, f3, f4, f5, f6]) rfl ⟨by rw [HN.out.1, HN.out.2], ?_⟩
            repeat refine Ext.set ?_ (by omega) _
            exact x0
        case' pos =>
          have hyes : S.gives ⟨c, a0, a1, a2, a3, a4, a5⟩ k n = true := by unfold S.gives; rw [hi, HZ.out]; simp [hn, hf]
          have hy2 : S.give ⟨c, a0, a1, a2, a3, a4, a5⟩ k n = S.add ⟨c, a0, a1, a2, a3, a4, a5⟩ k (-n) := if_pos hyes
          have HY := Lib.hid (And.intro hyes hy2)
          clear hyes hy2
          obtain ⟨g0, g1, g2, g3, g4, g5, g6⟩ := BS.out.free
          rcases (by simp [inB] at hi; omega : k = 0 ∨ k = 1 ∨ k = 2 ∨ k = 3 ∨ k = 4 ∨ k = 5) with rfl | rfl | rfl | rfl | rfl | rfl
          · have hf : n ≤ a0 := hf
            have hwr : IntKind.i64.wrap (a0 - n) = a0 - n := IntWalk.i64_in _ (by omega)
            clear hi g0 g2 g3 g4 g5 g6 
            obtain ⟨r0, r1, r2, r3, r4, r5, r6⟩ := BR.out.cells
            obtain ⟨f0, f1, f2, f3, f4, f5, f6⟩ := BR.out.free
            go_wp2_with fail
            refine bodyPost_ret (v := .tuple #[stV c (a0 - n) a1 a2 a3 a4 a5, .bool true]) (by simp [results, Try.results9, go_sem, r0, r1, r2, r3, r4, r5, r6, f0, f1, f2, f3, f4, f5, f6, c0, c1, c2, c3, c4, c5, c6, g1, hwr]) rfl ⟨by rw [HY.out.2, HY.out.1]; simp [S.add, S.val, stV, Int.sub_eq_add_neg], ?_⟩
            repeat refine Ext.set ?_ (by omega) _
            exact x0
          · have hf : n ≤ a1 := hf
            have hwr : IntKind.i64.wrap (a1 - n) = a1 - n := IntWalk.i64_in _ (by omega)
            clear hi g0 g1 g3 g4 g5 g6 
            obtain ⟨r0, r1, r2, r3, r4, r5, r6⟩ := BR.out.cells
            obtain ⟨f0, f1, f2, f3, f4, f5, f6⟩ := BR.out.free
            go_wp2_with fail
            refine bodyPost_ret (v := .tuple #[stV c a0 (a1 - n) a2 a3 a4 a5, .bool true]) (by simp [results, Try.results9, go_sem, r0, r1, r2, r3, r4, r5, r6, f0, f1, f2, f3, f4, f5, f6, c0, c1, c2, c3, c4, c5, c6, g2, hwr]) rfl ⟨by rw [HY.out.2, HY.out.1]; simp [S.add, S.val, stV, Int.sub_eq_add_neg], ?_⟩
            repeat refine Ext.set ?_ (by omega) _
            exact x0
          · have hf : n ≤ a2 := hf
            have hwr : IntKind.i64.wrap (a2 - n) = a2 - n := IntWalk.i64_in _ (by omega)
            clear hi g0 g1 g2 g4 g5 g6 
            obtain ⟨r0, r1, r2, r3, r4, r5, r6⟩ := BR.out.cells
            obtain ⟨f0, f1, f2, f3, f4, f5, f6⟩ := BR.out.free
            go_wp2_with fail
            refine bodyPost_ret (v := .tuple #[stV c a0 a1 (a2 - n) a3 a4 a5, .bool true]) (by simp [results, Try.results9, go_sem, r0, r1, r2, r3, r4, r5, r6, f0, f1, f2, f3, f4, f5, f6, c0, c1, c2, c3, c4, c5, c6, g3, hwr]) rfl ⟨by rw [HY.out.2, HY.out.1]; simp [S.add, S.val, stV, Int.sub_eq_add_neg], ?_⟩
            repeat refine Ext.set ?_ (by omega) _
            exact x0
          · have hf : n ≤ a3 := hf
            have hwr : IntKind.i64.wrap (a3 - n) = a3 - n := IntWalk.i64_in _ (by omega)
            clear hi g0 g1 g2 g3 g5 g6 
            obtain ⟨r0, r1, r2, r3, r4, r5, r6⟩ := BR.out.cells
            obtain ⟨f0, f1, f2, f3, f4, f5, f6⟩ := BR.out.free
            go_wp2_with fail
            refine bodyPost_ret (v := .tuple #[stV c a0 a1 a2 (a3 - n) a4 a5, .bool true]) (by simp [results, Try.results9, go_sem, r0, r1, r2, r3, r4, r5, r6, f0, f1, f2, f3, f4, f5, f6, c0, c1, c2, c3, c4, c5, c6, g4, hwr]) rfl ⟨by rw [HY.out.2, HY.out.1]; simp [S.add, S.val, stV, Int.sub_eq_add_neg], ?_⟩
            repeat refine Ext.set ?_ (by omega) _
            exact x0
          · have hf : n ≤ a4 := hf
            have hwr : IntKind.i64.wrap (a4 - n) = a4 - n := IntWalk.i64_in _ (by omega)
            clear hi g0 g1 g2 g3 g4 g6 
            obtain ⟨r0, r1, r2, r3, r4, r5, r6⟩ := BR.out.cells
            obtain ⟨f0, f1, f2, f3, f4, f5, f6⟩ := BR.out.free
            go_wp2_with fail
            refine bodyPost_ret (v := .tuple #[stV c a0 a1 a2 a3 (a4 - n) a5, .bool true]) (by simp [results, Try.results9, go_sem, r0, r1, r2, r3, r4, r5, r6, f0, f1, f2, f3, f4, f5, f6, c0, c1, c2, c3, c4, c5, c6, g5, hwr]) rfl ⟨by rw [HY.out.2, HY.out.1]; simp [S.add, S.val, stV, Int.sub_eq_add_neg], ?_⟩
            repeat refine Ext.set ?_ (by omega) _
            exact x0
          · have hf : n ≤ a5 := hf
            have hwr : IntKind.i64.wrap (a5 - n) = a5 - n := IntWalk.i64_in _ (by omega)
            clear hi g0 g1 g2 g3 g4 g5 
            obtain ⟨r0, r1, r2, r3, r4, r5, r6⟩ := BR.out.cells
            obtain ⟨f0, f1, f2, f3, f4, f5, f6⟩ := BR.out.free
            go_wp2_with fail
            refine bodyPost_ret (v := .tuple #[stV c a0 a1 a2 a3 a4 (a5 - n), .bool true]) (by simp [results, Try.results9, go_sem, r0, r1, r2, r3, r4, r5, r6, f0, f1, f2, f3, f4, f5, f6, c0, c1, c2, c3, c4, c5, c6, g6, hwr]) rfl ⟨by rw [HY.out.2, HY.out.1]; simp [S.add, S.val, stV, Int.sub_eq_add_neg], ?_⟩
            repeat refine Ext.set ?_ (by omega) _
            exact x0

end Go.Proofs.Ytnldfglgdchinaa
