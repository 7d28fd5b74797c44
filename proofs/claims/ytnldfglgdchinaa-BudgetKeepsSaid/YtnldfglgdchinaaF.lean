/- What take_any answers. -/
import Derived.Test.YtnldfglgdchinaaE
namespace Go.Proofs.Ytnldfglgdchinaa
set_option linter.unusedSimpArgs false
set_option linter.unusedVariables false
open Go.RowKit

/-- Block b holds the state s, and may be written. -/
def Box (w : World) (b : Nat) (s : S) : Prop := (w.cell? ⟨b, 0, none⟩ = some (.int .i64 s.c) ∧ w.cell? ⟨b, 1, none⟩ = some (.int .i64 s.a0) ∧ w.cell? ⟨b, 2, none⟩ = some (.int .i64 s.a1) ∧ w.cell? ⟨b, 3, none⟩ = some (.int .i64 s.a2) ∧ w.cell? ⟨b, 4, none⟩ = some (.int .i64 s.a3) ∧ w.cell? ⟨b, 5, none⟩ = some (.int .i64 s.a4) ∧ w.cell? ⟨b, 6, none⟩ = some (.int .i64 s.a5)) ∧ (w.frozen? ⟨b, 0, none⟩ = false ∧ w.frozen? ⟨b, 1, none⟩ = false ∧ w.frozen? ⟨b, 2, none⟩ = false ∧ w.frozen? ⟨b, 3, none⟩ = false ∧ w.frozen? ⟨b, 4, none⟩ = false ∧ w.frozen? ⟨b, 5, none⟩ = false ∧ w.frozen? ⟨b, 6, none⟩ = false)

theorem Box.cells {w : World} {b : Nat} {s : S} (h : Box w b s) : w.cell? ⟨b, 0, none⟩ = some (.int .i64 s.c) ∧ w.cell? ⟨b, 1, none⟩ = some (.int .i64 s.a0) ∧ w.cell? ⟨b, 2, none⟩ = some (.int .i64 s.a1) ∧ w.cell? ⟨b, 3, none⟩ = some (.int .i64 s.a2) ∧ w.cell? ⟨b, 4, none⟩ = some (.int .i64 s.a3) ∧ w.cell? ⟨b, 5, none⟩ = some (.int .i64 s.a4) ∧ w.cell? ⟨b, 6, none⟩ = some (.int .i64 s.a5) := h.1
theorem Box.free {w : World} {b : Nat} {s : S} (h : Box w b s) : w.frozen? ⟨b, 0, none⟩ = false ∧ w.frozen? ⟨b, 1, none⟩ = false ∧ w.frozen? ⟨b, 2, none⟩ = false ∧ w.frozen? ⟨b, 3, none⟩ = false ∧ w.frozen? ⟨b, 4, none⟩ = false ∧ w.frozen? ⟨b, 5, none⟩ = false ∧ w.frozen? ⟨b, 6, none⟩ = false := h.2

theorem Box.ext {w w' : World} {b : Nat} {s : S} (h : Box w b s) (x : Ext w w') : Box w' b s := by
  obtain ⟨⟨c0, c1, c2, c3, c4, c5, c6⟩, ⟨f0, f1, f2, f3, f4, f5, f6⟩⟩ := h
  exact ⟨⟨x.cell_some c0, x.cell_some c1, x.cell_some c2, x.cell_some c3, x.cell_some c4, x.cell_some c5, x.cell_some c6⟩,
    ⟨x.free (lt_of_cell c0) f0, x.free (lt_of_cell c1) f1, x.free (lt_of_cell c2) f2, x.free (lt_of_cell c3) f3, x.free (lt_of_cell c4) f4, x.free (lt_of_cell c5) f5, x.free (lt_of_cell c6) f6⟩⟩

theorem Box.new (w : World) (T : TypeId) (c a0 a1 a2 a3 a4 a5 : Int) : Box (w.alloc (.cells #[.int .i64 c, .int .i64 a0, .int .i64 a1, .int .i64 a2, .int .i64 a3, .int .i64 a4, .int .i64 a5] T)) w.heap.size ⟨c, a0, a1, a2, a3, a4, a5⟩ :=
  ⟨⟨by simp, by simp, by simp, by simp, by simp, by simp, by simp⟩, ⟨by go_simp, by go_simp, by go_simp, by go_simp, by go_simp, by go_simp, by go_simp⟩⟩

/-- The k-th of the six. -/
def S.get (s : S) (k : Int) : Int := if k = 0 then s.a0 else if k = 1 then s.a1 else if k = 2 then s.a2 else if k = 3 then s.a3 else if k = 4 then s.a4 else s.a5

/-- n more of the k-th kind. -/
def S.add (s : S) (k n : Int) : S := ⟨s.c, if k = 0 then s.a0 + n else s.a0, if k = 1 then s.a1 + n else s.a1, if k = 2 then s.a2 + n else s.a2, if k = 3 then s.a3 + n else s.a3, if k = 4 then s.a4 + n else s.a4, if k = 5 then s.a5 + n else s.a5⟩

def S.takes (s : S) (k n : Int) : Bool := inB k 0 5 && decide (0 ≤ n) && decide (s.check = 0) && decide (n ≤ s.fits k n)
def S.gives (s : S) (k n : Int) : Bool := inB k 0 5 && decide (0 ≤ n) && decide (s.check = 0) && decide (n ≤ s.get k)
def S.take (s : S) (k n : Int) : S := if s.takes k n = true then s.add k n else s
def S.give (s : S) (k n : Int) : S := if s.gives k n = true then s.add k (-n) else s

theorem fits_le (s : S) (k n : Int) (h : 0 ≤ n) : s.fits k n ≤ n := by
  unfold S.fits
  split <;> omega

theorem fits_le2 (s : S) (k n : Int) (h : inB k 0 5 = true) : s.fits k n ≤ 4096 := by
  have := left_quo s k h
  unfold S.fits
  rw [if_pos h]
  omega

set_option maxRecDepth 100000 in
set_option maxHeartbeats 20000000 in
theorem take_any (w : World) (c a0 a1 a2 a3 a4 a5 k n : Int) :
    Calls Try.prog 7 #[stV c a0 a1 a2 a3 a4 a5, .int .i64 k, .int .i64 n] w fun e w' => e = .returned (.tuple #[S.val (S.take ⟨c, a0, a1, a2, a3, a4, a5⟩ k n), .bool (S.takes ⟨c, a0, a1, a2, a3, a4, a5⟩ k n)]) ∧ Ext w w' := by
  go_enter Try.func7, Try.ntmps7
  go_wp2_with fail
  obtain ⟨w0, hw0⟩ : ∃ w0, w0 = (w.alloc (.cells #[.int .i64 c, .int .i64 a0, .int .i64 a1, .int .i64 a2, .int .i64 a3, .int .i64 a4, .int .i64 a5] 26)).alloc (.cells #[.int .i64 0, .int .i64 0, .int .i64 0, .int .i64 0, .int .i64 0, .int .i64 0, .int .i64 0] 26) := ⟨_, rfl⟩
  rw [← hw0]
  have x0 : Ext w w0 := hw0 ▸ (Ext.alloc _ _).al _
  have BS : Hid (Box w0 w.heap.size ⟨c, a0, a1, a2, a3, a4, a5⟩) := Lib.hid (hw0 ▸ (Box.new w 26 c a0 a1 a2 a3 a4 a5).ext (Ext.alloc _ _))
  have BR : Hid (Box w0 (w.heap.size + 1) ⟨0, 0, 0, 0, 0, 0, 0⟩) := Lib.hid (hw0 ▸ by simpa using Box.new (w.alloc (.cells #[.int .i64 c, .int .i64 a0, .int .i64 a1, .int .i64 a2, .int .i64 a3, .int .i64 a4, .int .i64 a5] 26)) 26 0 0 0 0 0 0 0)
  clear hw0
  obtain ⟨c0, c1, c2, c3, c4, c5, c6⟩ := BS.out.cells
  refine (is_any _ _).mono ?_
  rintro e wi ⟨rfl, hw⟩
  rw [hw]
  clear hw wi
  by_cases hi : inB k 0 5 = true
  case' neg =>
    have hno : S.takes ⟨c, a0, a1, a2, a3, a4, a5⟩ k n = false := by unfold S.takes; rw [show inB k 0 5 = false by simpa using hi]; simp
    have HN := Lib.hid (show S.take ⟨c, a0, a1, a2, a3, a4, a5⟩ k n = ⟨c, a0, a1, a2, a3, a4, a5⟩ ∧ S.takes ⟨c, a0, a1, a2, a3, a4, a5⟩ k n = false from ⟨by unfold S.take; rw [if_neg (by rw [hno]; simp)], hno⟩)
    clear hno
    have hi : inB k 0 5 = false := by simpa using hi
    rw [hi]
    clear hi
    obtain ⟨r0, r1, r2, r3, r4, r5, r6⟩ := BR.out.cells
    obtain ⟨f0, f1, f2, f3, f4, f5, f6⟩ := BR.out.free
    go_wp2_with fail
    refine bodyPost_ret (v := .tuple #[stV c a0 a1 a2 a3 a4 a5, .bool false]) (by simp [results, Try.results7, go_sem, r0, r1, r2, r3, r4, r5, r6, f0, f1, f2, f3, f4, f5, f6]) rfl ⟨by rw [HN.out.1, HN.out.2], ?_⟩
    repeat refine Ext.set ?_ (by omega) _
    exact x0
  case' pos =>
    rw [hi]
    by_cases hn : 0 ≤ n
    case' neg =>
      have hno : S.takes ⟨c, a0, a1, a2, a3, a4, a5⟩ k n = false := by unfold S.takes; rw [show decide (0 ≤ n) = false by simpa using hn]; simp
      have HN := Lib.hid (show S.take ⟨c, a0, a1, a2, a3, a4, a5⟩ k n = ⟨c, a0, a1, a2, a3, a4, a5⟩ ∧ S.takes ⟨c, a0, a1, a2, a3, a4, a5⟩ k n = false from ⟨by unfold S.take; rw [if_neg (by rw [hno]; simp)], hno⟩)
      clear hno
      obtain ⟨r0, r1, r2, r3, r4, r5, r6⟩ := BR.out.cells
      obtain ⟨f0, f1, f2, f3, f4, f5, f6⟩ := BR.out.free
      go_wp2_with fail
      refine bodyPost_ret (v := .tuple #[stV c a0 a1 a2 a3 a4 a5, .bool false]) (by simp [results, Try.results7, go_sem, r0, r1, r2, r3, r4, r5, r6, f0, f1, f2, f3, f4, f5, f6]) rfl ⟨by rw [HN.out.1, HN.out.2], ?_⟩
      repeat refine Ext.set ?_ (by omega) _
      exact x0
    case' pos =>
      go_wp2_with fail
      refine (check_any _ c a0 a1 a2 a3 a4 a5).mono ?_
      rintro e wc ⟨rfl, xc⟩
      have BS := Lib.hid (BS.out.ext xc)
      have BR := Lib.hid (BR.out.ext xc)
      have x0 := x0.trans xc
      clear xc c0 c1 c2 c3 c4 c5 c6
      obtain ⟨c0, c1, c2, c3, c4, c5, c6⟩ := BS.out.cells
      by_cases hz : S.check ⟨c, a0, a1, a2, a3, a4, a5⟩ = 0
      case' neg =>
        have hno : S.takes ⟨c, a0, a1, a2, a3, a4, a5⟩ k n = false := by unfold S.takes; rw [show decide (S.check ⟨c, a0, a1, a2, a3, a4, a5⟩ = 0) = false by simpa using hz]; simp
        have HN := Lib.hid (show S.take ⟨c, a0, a1, a2, a3, a4, a5⟩ k n = ⟨c, a0, a1, a2, a3, a4, a5⟩ ∧ S.takes ⟨c, a0, a1, a2, a3, a4, a5⟩ k n = false from ⟨by unfold S.take; rw [if_neg (by rw [hno]; simp)], hno⟩)
        clear hno
        generalize S.check ⟨c, a0, a1, a2, a3, a4, a5⟩ = z at *
        obtain ⟨r0, r1, r2, r3, r4, r5, r6⟩ := BR.out.cells
        obtain ⟨f0, f1, f2, f3, f4, f5, f6⟩ := BR.out.free
        go_wp2_with fail
        refine bodyPost_ret (v := .tuple #[stV c a0 a1 a2 a3 a4 a5, .bool false]) (by simp [results, Try.results7, go_sem, r0, r1, r2, r3, r4, r5, r6, f0, f1, f2, f3, f4, f5, f6]) rfl ⟨by rw [HN.out.1, HN.out.2], ?_⟩
        repeat refine Ext.set ?_ (by omega) _
        exact x0
      case' pos =>
        obtain ⟨⟨m0, m1, m2, m3, m4, m5⟩, hc, hs⟩ := may hz
        have m0 := ok_bound m0
        have m1 := ok_bound m1
        have m2 := ok_bound m2
        have m3 := ok_bound m3
        have m4 := ok_bound m4
        have m5 := ok_bound m5
        rw [hz]
        have HZ := Lib.hid hz
        clear hz
        go_wp2_with fail
        refine (fits_any _ c a0 a1 a2 a3 a4 a5 k n).mono ?_
        rintro e wf ⟨rfl, xf⟩
        have BS := Lib.hid (BS.out.ext xf)
        have BR := Lib.hid (BR.out.ext xf)
        have x0 := x0.trans xf
        clear xf c0 c1 c2 c3 c4 c5 c6
        obtain ⟨c0, c1, c2, c3, c4, c5, c6⟩ := BS.out.cells
        have hl := fits_le ⟨c, a0, a1, a2, a3, a4, a5⟩ k n hn
        have hl2 := fits_le2 ⟨c, a0, a1, a2, a3, a4, a5⟩ k n hi
        by_cases hf : n ≤ S.fits ⟨c, a0, a1, a2, a3, a4, a5⟩ k n
        case' neg =>
          have hno : S.takes ⟨c, a0, a1, a2, a3, a4, a5⟩ k n = false := by unfold S.takes; rw [show decide (n ≤ S.fits ⟨c, a0, a1, a2, a3, a4, a5⟩ k n) = false by simpa using hf]; simp
          have HN := Lib.hid (show S.take ⟨c, a0, a1, a2, a3, a4, a5⟩ k n = ⟨c, a0, a1, a2, a3, a4, a5⟩ ∧ S.takes ⟨c, a0, a1, a2, a3, a4, a5⟩ k n = false from ⟨by unfold S.take; rw [if_neg (by rw [hno]; simp)], hno⟩)
          clear hno
          generalize S.fits ⟨c, a0, a1, a2, a3, a4, a5⟩ k n = f at *
          have hfe : f ≠ n := by omega
          have hfb1 : (f != n) = true := by simpa using hfe
          have hfb2 : decide (f = n) = false := by simpa using hfe
          clear hfb1 hfb2 hfe hl hl2
          obtain ⟨r0, r1, r2, r3, r4, r5, r6⟩ := BR.out.cells
          obtain ⟨f0, f1, f2, f3, f4, f5, f6⟩ := BR.out.free
          go_wp2_with fail
          refine bodyPost_ret (v := .tuple #[stV c a0 a1 a2 a3 a4 a5, .bool false]) (by simp [results, Try.results7, go_sem, r0, r1, r2, r3, r4, r5, r6, f0, f1, f2, f3, f4, f5, f6]) rfl ⟨by rw [HN.out.1, HN.out.2], ?_⟩
          repeat refine Ext.set ?_ (by omega) _
          exact x0
        case' pos =>
          have hyes : S.takes ⟨c, a0, a1, a2, a3, a4, a5⟩ k n = true := by unfold S.takes; rw [hi, HZ.out]; simp [hn, hf]
          have hy2 : S.take ⟨c, a0, a1, a2, a3, a4, a5⟩ k n = S.add ⟨c, a0, a1, a2, a3, a4, a5⟩ k n := if_pos hyes
          have HY := Lib.hid (And.intro hyes hy2)
          clear hyes hy2
          have hfe : S.fits ⟨c, a0, a1, a2, a3, a4, a5⟩ k n = n := by omega
          rw [hfe] at hl2 ⊢
          clear hfe hf hl
          obtain ⟨g0, g1, g2, g3, g4, g5, g6⟩ := BS.out.free
          rcases (by simp [inB] at hi; omega : k = 0 ∨ k = 1 ∨ k = 2 ∨ k = 3 ∨ k = 4 ∨ k = 5) with rfl | rfl | rfl | rfl | rfl | rfl
          · have hwr : IntKind.i64.wrap (a0 + n) = a0 + n := IntWalk.i64_in _ (by omega)
            clear hi g0 g2 g3 g4 g5 g6 
            obtain ⟨r0, r1, r2, r3, r4, r5, r6⟩ := BR.out.cells
            obtain ⟨f0, f1, f2, f3, f4, f5, f6⟩ := BR.out.free
            go_wp2_with fail
            refine bodyPost_ret (v := .tuple #[stV c (a0 + n) a1 a2 a3 a4 a5, .bool true]) (by simp [results, Try.results7, go_sem, r0, r1, r2, r3, r4, r5, r6, f0, f1, f2, f3, f4, f5, f6, c0, c1, c2, c3, c4, c5, c6, g1, hwr]) rfl ⟨by rw [HY.out.2, HY.out.1]; simp [S.add, S.val, stV, Int.sub_eq_add_neg], ?_⟩
            repeat refine Ext.set ?_ (by omega) _
            exact x0
          · have hwr : IntKind.i64.wrap (a1 + n) = a1 + n := IntWalk.i64_in _ (by omega)
            clear hi g0 g1 g3 g4 g5 g6 
            obtain ⟨r0, r1, r2, r3, r4, r5, r6⟩ := BR.out.cells
            obtain ⟨f0, f1, f2, f3, f4, f5, f6⟩ := BR.out.free
            go_wp2_with fail
            refine bodyPost_ret (v := .tuple #[stV c a0 (a1 + n) a2 a3 a4 a5, .bool true]) (by simp [results, Try.results7, go_sem, r0, r1, r2, r3, r4, r5, r6, f0, f1, f2, f3, f4, f5, f6, c0, c1, c2, c3, c4, c5, c6, g2, hwr]) rfl ⟨by rw [HY.out.2, HY.out.1]; simp [S.add, S.val, stV, Int.sub_eq_add_neg], ?_⟩
            repeat refine Ext.set ?_ (by omega) _
            exact x0
          · have hwr : IntKind.i64.wrap (a2 + n) = a2 + n := IntWalk.i64_in _ (by omega)
            clear hi g0 g1 g2 g4 g5 g6 
            obtain ⟨r0, r1, r2, r3, r4, r5, r6⟩ := BR.out.cells
            obtain ⟨f0, f1, f2, f3, f4, f5, f6⟩ := BR.out.free
            go_wp2_with fail
            refine bodyPost_ret (v := .tuple #[stV c a0 a1 (a2 + n) a3 a4 a5, .bool true]) (by simp [results, Try.results7, go_sem, r0, r1, r2, r3, r4, r5, r6, f0, f1, f2, f3, f4, f5, f6, c0, c1, c2, c3, c4, c5, c6, g3, hwr]) rfl ⟨by rw [HY.out.2, HY.out.1]; simp [S.add, S.val, stV, Int.sub_eq_add_neg], ?_⟩
            repeat refine Ext.set ?_ (by omega) _
            exact x0
          · have hwr : IntKind.i64.wrap (a3 + n) = a3 + n := IntWalk.i64_in _ (by omega)
            clear hi g0 g1 g2 g3 g5 g6 
            obtain ⟨r0, r1, r2, r3, r4, r5, r6⟩ := BR.out.cells
            obtain ⟨f0, f1, f2, f3, f4, f5, f6⟩ := BR.out.free
            go_wp2_with fail
            refine bodyPost_ret (v := .tuple #[stV c a0 a1 a2 (a3 + n) a4 a5, .bool true]) (by simp [results, Try.results7, go_sem, r0, r1, r2, r3, r4, r5, r6, f0, f1, f2, f3, f4, f5, f6, c0, c1, c2, c3, c4, c5, c6, g4, hwr]) rfl ⟨by rw [HY.out.2, HY.out.1]; simp [S.add, S.val, stV, Int.sub_eq_add_neg], ?_⟩
            repeat refine Ext.set ?_ (by omega) _
            exact x0
          · have hwr : IntKind.i64.wrap (a4 + n) = a4 + n := IntWalk.i64_in _ (by omega)
            clear hi g0 g1 g2 g3 g4 g6 
            obtain ⟨r0, r1, r2, r3, r4, r5, r6⟩ := BR.out.cells
            obtain ⟨f0, f1, f2, f3, f4, f5, f6⟩ := BR.out.free
            go_wp2_with fail
            refine bodyPost_ret (v := .tuple #[stV c a0 a1 a2 a3 (a4 + n) a5, .bool true]) (by simp [results, Try.results7, go_sem, r0, r1, r2, r3, r4, r5, r6, f0, f1, f2, f3, f4, f5, f6, c0, c1, c2, c3, c4, c5, c6, g5, hwr]) rfl ⟨by rw [HY.out.2, HY.out.1]; simp [S.add, S.val, stV, Int.sub_eq_add_neg], ?_⟩
            repeat refine Ext.set ?_ (by omega) _
            exact x0
          · have hwr : IntKind.i64.wrap (a5 + n) = a5 + n := IntWalk.i64_in _ (by omega)
            clear hi g0 g1 g2 g3 g4 g5 
            obtain ⟨r0, r1, r2, r3, r4, r5, r6⟩ := BR.out.cells
            obtain ⟨f0, f1, f2, f3, f4, f5, f6⟩ := BR.out.free
            go_wp2_with fail
            refine bodyPost_ret (v := .tuple #[stV c a0 a1 a2 a3 a4 (a5 + n), .bool true]) (by simp [results, Try.results7, go_sem, r0, r1, r2, r3, r4, r5, r6, f0, f1, f2, f3, f4, f5, f6, c0, c1, c2, c3, c4, c5, c6, g6, hwr]) rfl ⟨by rw [HY.out.2, HY.out.1]; simp [S.add, S.val, stV, Int.sub_eq_add_neg], ?_⟩
            repeat refine Ext.set ?_ (by omega) _
            exact x0

end Go.Proofs.Ytnldfglgdchinaa
