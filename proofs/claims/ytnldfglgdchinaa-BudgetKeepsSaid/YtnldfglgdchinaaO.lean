/- What is charged, and charged no more, leaves any state as the document says. -/
import Derived.Test.YtnldfglgdchinaaN
namespace Go.Proofs.Ytnldfglgdchinaa
set_option linter.unusedSimpArgs false
set_option linter.unusedVariables false
open Go.RowKit

/-- Block b holds two numbers. -/
def Pair (w : World) (b : Nat) (x y : Int) : Prop := w.cell? ⟨b, 0, none⟩ = some (.int .i64 x) ∧ w.cell? ⟨b, 1, none⟩ = some (.int .i64 y)
theorem Pair.new (w : World) (T : TypeId) (x y : Int) : Pair (w.alloc (.cells #[.int .i64 x, .int .i64 y] T)) w.heap.size x y := ⟨by simp, by simp⟩
theorem Pair.cells {w : World} {b : Nat} {x y : Int} (h : Pair w b x y) : w.cell? ⟨b, 0, none⟩ = some (.int .i64 x) ∧ w.cell? ⟨b, 1, none⟩ = some (.int .i64 y) := h
theorem Pair.ext {w w' : World} {b : Nat} {x y : Int} (h : Pair w b x y) (e : Ext w w') : Pair w' b x y := ⟨e.cell_some h.1, e.cell_some h.2⟩
theorem Pair.seen {w w' : World} {b : Nat} {x y : Int} (h : Pair w b x y) (e : Gr none w w') : w'.cell? ⟨b, 0, none⟩ = some (.int .i64 x) ∧ w'.cell? ⟨b, 1, none⟩ = some (.int .i64 y) := ⟨e.cell_some h.1 (by simp), e.cell_some h.2 (by simp)⟩

set_option maxRecDepth 100000 in
set_option maxHeartbeats 20000000 in
theorem changes_walk (w : World) (c a0 a1 a2 a3 a4 a5 d b0 b1 b2 b3 b4 b5 k n : Int) : Calls Try.prog 3 #[stV c a0 a1 a2 a3 a4 a5, stV d b0 b1 b2 b3 b4 b5, .agg #[.int .i64 k, .int .i64 n]] w fun e w' => e = .returned (.bool true) ∧ Ext w w' := by
  obtain ⟨⟨p, p0, p1, p2, p3, p4, p5⟩, hp⟩ : ∃ s : S, s = S.take ⟨c, a0, a1, a2, a3, a4, a5⟩ k n := ⟨_, rfl⟩
  obtain ⟨⟨q, q0, q1, q2, q3, q4, q5⟩, hq⟩ : ∃ s : S, s = S.give ⟨c, a0, a1, a2, a3, a4, a5⟩ k n := ⟨_, rfl⟩
  obtain ⟨⟨s, s0, s1, s2, s3, s4, s5⟩, hs⟩ : ∃ s : S, s = S.merge ⟨c, a0, a1, a2, a3, a4, a5⟩ ⟨d, b0, b1, b2, b3, b4, b5⟩ := ⟨_, rfl⟩
  obtain ⟨tk, htk⟩ : ∃ b : Bool, b = S.takes ⟨c, a0, a1, a2, a3, a4, a5⟩ k n := ⟨_, rfl⟩
  obtain ⟨gv, hgv⟩ : ∃ b : Bool, b = S.gives ⟨c, a0, a1, a2, a3, a4, a5⟩ k n := ⟨_, rfl⟩
  obtain ⟨me, hme⟩ : ∃ b : Int, b = S.mergeE ⟨c, a0, a1, a2, a3, a4, a5⟩ ⟨d, b0, b1, b2, b3, b4, b5⟩ := ⟨_, rfl⟩
  have N7 : Hid (∀ w, Calls Try.prog 7 #[stV c a0 a1 a2 a3 a4 a5, .int .i64 k, .int .i64 n] w fun x w' => x = .returned (.tuple #[stV p p0 p1 p2 p3 p4 p5, .bool tk]) ∧ Ext w w') := Lib.hid (by
    intro w
    have h := take_any w c a0 a1 a2 a3 a4 a5 k n
    rw [← hp, ← htk] at h
    exact h)
  have N8 : Hid (∀ w, Calls Try.prog 8 #[stV c a0 a1 a2 a3 a4 a5, .int .i64 k, .int .i64 n] w fun x w' => x = .returned (.tuple #[stV p p0 p1 p2 p3 p4 p5, .bool tk]) ∧ Ext w w') := Lib.hid (by
    intro w
    have h := rtake_any w c a0 a1 a2 a3 a4 a5 k n
    rw [← hp, ← htk] at h
    exact h)
  have N9 : Hid (∀ w, Calls Try.prog 9 #[stV c a0 a1 a2 a3 a4 a5, .int .i64 k, .int .i64 n] w fun x w' => x = .returned (.tuple #[stV q q0 q1 q2 q3 q4 q5, .bool gv]) ∧ Ext w w') := Lib.hid (by
    intro w
    have h := give_any w c a0 a1 a2 a3 a4 a5 k n
    rw [← hq, ← hgv] at h
    exact h)
  have N10 : Hid (∀ w, Calls Try.prog 10 #[stV c a0 a1 a2 a3 a4 a5, .int .i64 k, .int .i64 n] w fun x w' => x = .returned (.tuple #[stV q q0 q1 q2 q3 q4 q5, .bool gv]) ∧ Ext w w') := Lib.hid (by
    intro w
    have h := rgive_any w c a0 a1 a2 a3 a4 a5 k n
    rw [← hq, ← hgv] at h
    exact h)
  have N11 : Hid (∀ w, Calls Try.prog 11 #[stV c a0 a1 a2 a3 a4 a5, stV d b0 b1 b2 b3 b4 b5] w fun x w' => x = .returned (.tuple #[stV s s0 s1 s2 s3 s4 s5, .int .i64 me]) ∧ Ext w w') := Lib.hid (by
    intro w
    have h := merge_any w c a0 a1 a2 a3 a4 a5 d b0 b1 b2 b3 b4 b5
    rw [← hs, ← hme] at h
    exact h)
  have N12 : Hid (∀ w, Calls Try.prog 12 #[stV c a0 a1 a2 a3 a4 a5, stV d b0 b1 b2 b3 b4 b5] w fun x w' => x = .returned (.tuple #[stV s s0 s1 s2 s3 s4 s5, .int .i64 me]) ∧ Ext w w') := Lib.hid (by
    intro w
    have h := rmerge_any w c a0 a1 a2 a3 a4 a5 d b0 b1 b2 b3 b4 b5
    rw [← hs, ← hme] at h
    exact h)
  clear hp hq hs htk hgv hme
  go_enter Try.func3, Try.ntmps3
  go_wp2_with fail
  obtain ⟨w0, hw0⟩ : ∃ w0, w0 = (((w.alloc (.cells #[.int .i64 c, .int .i64 a0, .int .i64 a1, .int .i64 a2, .int .i64 a3, .int .i64 a4, .int .i64 a5] 24)).alloc (.cells #[.int .i64 d, .int .i64 b0, .int .i64 b1, .int .i64 b2, .int .i64 b3, .int .i64 b4, .int .i64 b5] 24)).alloc (.cells #[.int .i64 k, .int .i64 n] 25)).alloc (.cells #[.int .i64 c, .int .i64 a0, .int .i64 a1, .int .i64 a2, .int .i64 a3, .int .i64 a4, .int .i64 a5] 26) := ⟨_, rfl⟩
  rw [← hw0]
  have x0 : Ext w w0 := hw0 ▸ (((Ext.alloc _ _).al _).al _).al _
  have B3 : Hid (Box w0 w.heap.size ⟨c, a0, a1, a2, a3, a4, a5⟩) := Lib.hid (hw0 ▸ (Box.new w 24 c a0 a1 a2 a3 a4 a5).ext (((Ext.alloc _ _).al _).al _))
  have B4 : Hid (Box w0 (w.heap.size + 1) ⟨d, b0, b1, b2, b3, b4, b5⟩) := Lib.hid (hw0 ▸ by simpa using (Box.new (w.alloc (.cells #[.int .i64 c, .int .i64 a0, .int .i64 a1, .int .i64 a2, .int .i64 a3, .int .i64 a4, .int .i64 a5] 24)) 24 d b0 b1 b2 b3 b4 b5).ext ((Ext.alloc _ _).al _))
  have B5 : Hid (Pair w0 (w.heap.size + 1 + 1) k n) := Lib.hid (hw0 ▸ by simpa using (Pair.new ((w.alloc (.cells #[.int .i64 c, .int .i64 a0, .int .i64 a1, .int .i64 a2, .int .i64 a3, .int .i64 a4, .int .i64 a5] 24)).alloc (.cells #[.int .i64 d, .int .i64 b0, .int .i64 b1, .int .i64 b2, .int .i64 b3, .int .i64 b4, .int .i64 b5] 24)) 25 k n).ext (Ext.alloc _ _))
  have B7 : Hid (Box w0 (w.heap.size + 1 + 1 + 1) ⟨c, a0, a1, a2, a3, a4, a5⟩) := Lib.hid (hw0 ▸ by simpa using Box.new (((w.alloc (.cells #[.int .i64 c, .int .i64 a0, .int .i64 a1, .int .i64 a2, .int .i64 a3, .int .i64 a4, .int .i64 a5] 24)).alloc (.cells #[.int .i64 d, .int .i64 b0, .int .i64 b1, .int .i64 b2, .int .i64 b3, .int .i64 b4, .int .i64 b5] 24)).alloc (.cells #[.int .i64 k, .int .i64 n] 25)) 26 c a0 a1 a2 a3 a4 a5)
  clear hw0
  refine (N7.out _).mono ?_
  rintro e w8 ⟨rfl, x1⟩
  have B3 := Lib.hid (B3.out.ext x1)
  have B4 := Lib.hid (B4.out.ext x1)
  have B5 := Lib.hid (B5.out.ext x1)
  have B7 := Lib.hid (B7.out.ext x1)
  have x0 := x0.trans x1
  clear x1
  obtain ⟨C3_0, C3_1, C3_2, C3_3, C3_4, C3_5, C3_6⟩ := B3.out.cells
  obtain ⟨K0, K1⟩ := B5.out.cells
  have C3_0 := (Ext.alloc w8 (.cells #[.int .i64 p, .int .i64 p0, .int .i64 p1, .int .i64 p2, .int .i64 p3, .int .i64 p4, .int .i64 p5] 26)).cell_some C3_0
  have C3_1 := (Ext.alloc w8 (.cells #[.int .i64 p, .int .i64 p0, .int .i64 p1, .int .i64 p2, .int .i64 p3, .int .i64 p4, .int .i64 p5] 26)).cell_some C3_1
  have C3_2 := (Ext.alloc w8 (.cells #[.int .i64 p, .int .i64 p0, .int .i64 p1, .int .i64 p2, .int .i64 p3, .int .i64 p4, .int .i64 p5] 26)).cell_some C3_2
  have C3_3 := (Ext.alloc w8 (.cells #[.int .i64 p, .int .i64 p0, .int .i64 p1, .int .i64 p2, .int .i64 p3, .int .i64 p4, .int .i64 p5] 26)).cell_some C3_3
  have C3_4 := (Ext.alloc w8 (.cells #[.int .i64 p, .int .i64 p0, .int .i64 p1, .int .i64 p2, .int .i64 p3, .int .i64 p4, .int .i64 p5] 26)).cell_some C3_4
  have C3_5 := (Ext.alloc w8 (.cells #[.int .i64 p, .int .i64 p0, .int .i64 p1, .int .i64 p2, .int .i64 p3, .int .i64 p4, .int .i64 p5] 26)).cell_some C3_5
  have C3_6 := (Ext.alloc w8 (.cells #[.int .i64 p, .int .i64 p0, .int .i64 p1, .int .i64 p2, .int .i64 p3, .int .i64 p4, .int .i64 p5] 26)).cell_some C3_6
  have K0 := (Ext.alloc w8 (.cells #[.int .i64 p, .int .i64 p0, .int .i64 p1, .int .i64 p2, .int .i64 p3, .int .i64 p4, .int .i64 p5] 26)).cell_some K0
  have K1 := (Ext.alloc w8 (.cells #[.int .i64 p, .int .i64 p0, .int .i64 p1, .int .i64 p2, .int .i64 p3, .int .i64 p4, .int .i64 p5] 26)).cell_some K1
  go_wp2_with fail
  obtain ⟨v8, hv⟩ : ∃ v, v = w8.alloc (.cells #[.int .i64 p, .int .i64 p0, .int .i64 p1, .int .i64 p2, .int .i64 p3, .int .i64 p4, .int .i64 p5] 26) := ⟨_, rfl⟩
  try rw [← hv]
  have x0 : Ext w v8 := hv ▸ x0.al _
  have B8 : Hid (Box v8 w8.heap.size ⟨p, p0, p1, p2, p3, p4, p5⟩) := Lib.hid (hv ▸ Box.new w8 26 p p0 p1 p2 p3 p4 p5)
  have B3 : Hid (Box v8 _ _) := Lib.hid (B3.out.ext (hv ▸ Ext.alloc w8 _))
  have B4 : Hid (Box v8 _ _) := Lib.hid (B4.out.ext (hv ▸ Ext.alloc w8 _))
  have B5 : Hid (Pair v8 _ _ _) := Lib.hid (B5.out.ext (hv ▸ Ext.alloc w8 _))
  have B7 : Hid (Box v8 _ _) := Lib.hid (B7.out.ext (hv ▸ Ext.alloc w8 _))
  clear C3_0 C3_1 C3_2 C3_3 C3_4 C3_5 C3_6
  clear K0 K1
  generalize w8.heap.size = b8 at *
  clear hv
  refine (N8.out _).mono ?_
  rintro e w10 ⟨rfl, x1⟩
  have B3 := Lib.hid (B3.out.ext x1)
  have B4 := Lib.hid (B4.out.ext x1)
  have B5 := Lib.hid (B5.out.ext x1)
  have B7 := Lib.hid (B7.out.ext x1)
  have B8 := Lib.hid (B8.out.ext x1)
  have x0 := x0.trans x1
  clear x1
  obtain ⟨C7_0, C7_1, C7_2, C7_3, C7_4, C7_5, C7_6⟩ := B7.out.cells
  obtain ⟨K0, K1⟩ := B5.out.cells
  have C7_0 := (Ext.alloc w10 (.cells #[.int .i64 p, .int .i64 p0, .int .i64 p1, .int .i64 p2, .int .i64 p3, .int .i64 p4, .int .i64 p5] 24)).cell_some C7_0
  have C7_1 := (Ext.alloc w10 (.cells #[.int .i64 p, .int .i64 p0, .int .i64 p1, .int .i64 p2, .int .i64 p3, .int .i64 p4, .int .i64 p5] 24)).cell_some C7_1
  have C7_2 := (Ext.alloc w10 (.cells #[.int .i64 p, .int .i64 p0, .int .i64 p1, .int .i64 p2, .int .i64 p3, .int .i64 p4, .int .i64 p5] 24)).cell_some C7_2
  have C7_3 := (Ext.alloc w10 (.cells #[.int .i64 p, .int .i64 p0, .int .i64 p1, .int .i64 p2, .int .i64 p3, .int .i64 p4, .int .i64 p5] 24)).cell_some C7_3
  have C7_4 := (Ext.alloc w10 (.cells #[.int .i64 p, .int .i64 p0, .int .i64 p1, .int .i64 p2, .int .i64 p3, .int .i64 p4, .int .i64 p5] 24)).cell_some C7_4
  have C7_5 := (Ext.alloc w10 (.cells #[.int .i64 p, .int .i64 p0, .int .i64 p1, .int .i64 p2, .int .i64 p3, .int .i64 p4, .int .i64 p5] 24)).cell_some C7_5
  have C7_6 := (Ext.alloc w10 (.cells #[.int .i64 p, .int .i64 p0, .int .i64 p1, .int .i64 p2, .int .i64 p3, .int .i64 p4, .int .i64 p5] 24)).cell_some C7_6
  have K0 := (Ext.alloc w10 (.cells #[.int .i64 p, .int .i64 p0, .int .i64 p1, .int .i64 p2, .int .i64 p3, .int .i64 p4, .int .i64 p5] 24)).cell_some K0
  have K1 := (Ext.alloc w10 (.cells #[.int .i64 p, .int .i64 p0, .int .i64 p1, .int .i64 p2, .int .i64 p3, .int .i64 p4, .int .i64 p5] 24)).cell_some K1
  go_wp2_with fail
  obtain ⟨v10, hv⟩ : ∃ v, v = w10.alloc (.cells #[.int .i64 p, .int .i64 p0, .int .i64 p1, .int .i64 p2, .int .i64 p3, .int .i64 p4, .int .i64 p5] 24) := ⟨_, rfl⟩
  try rw [← hv]
  have x0 : Ext w v10 := hv ▸ x0.al _
  have B10 : Hid (Box v10 w10.heap.size ⟨p, p0, p1, p2, p3, p4, p5⟩) := Lib.hid (hv ▸ Box.new w10 24 p p0 p1 p2 p3 p4 p5)
  have B3 : Hid (Box v10 _ _) := Lib.hid (B3.out.ext (hv ▸ Ext.alloc w10 _))
  have B4 : Hid (Box v10 _ _) := Lib.hid (B4.out.ext (hv ▸ Ext.alloc w10 _))
  have B5 : Hid (Pair v10 _ _ _) := Lib.hid (B5.out.ext (hv ▸ Ext.alloc w10 _))
  have B7 : Hid (Box v10 _ _) := Lib.hid (B7.out.ext (hv ▸ Ext.alloc w10 _))
  have B8 : Hid (Box v10 _ _) := Lib.hid (B8.out.ext (hv ▸ Ext.alloc w10 _))
  clear C7_0 C7_1 C7_2 C7_3 C7_4 C7_5 C7_6
  clear K0 K1
  generalize w10.heap.size = b10 at *
  clear hv
  refine (N9.out _).mono ?_
  rintro e w12 ⟨rfl, x1⟩
  have B3 := Lib.hid (B3.out.ext x1)
  have B4 := Lib.hid (B4.out.ext x1)
  have B5 := Lib.hid (B5.out.ext x1)
  have B7 := Lib.hid (B7.out.ext x1)
  have B8 := Lib.hid (B8.out.ext x1)
  have B10 := Lib.hid (B10.out.ext x1)
  have x0 := x0.trans x1
  clear x1
  obtain ⟨C3_0, C3_1, C3_2, C3_3, C3_4, C3_5, C3_6⟩ := B3.out.cells
  obtain ⟨K0, K1⟩ := B5.out.cells
  have C3_0 := (Ext.alloc w12 (.cells #[.int .i64 q, .int .i64 q0, .int .i64 q1, .int .i64 q2, .int .i64 q3, .int .i64 q4, .int .i64 q5] 26)).cell_some C3_0
  have C3_1 := (Ext.alloc w12 (.cells #[.int .i64 q, .int .i64 q0, .int .i64 q1, .int .i64 q2, .int .i64 q3, .int .i64 q4, .int .i64 q5] 26)).cell_some C3_1
  have C3_2 := (Ext.alloc w12 (.cells #[.int .i64 q, .int .i64 q0, .int .i64 q1, .int .i64 q2, .int .i64 q3, .int .i64 q4, .int .i64 q5] 26)).cell_some C3_2
  have C3_3 := (Ext.alloc w12 (.cells #[.int .i64 q, .int .i64 q0, .int .i64 q1, .int .i64 q2, .int .i64 q3, .int .i64 q4, .int .i64 q5] 26)).cell_some C3_3
  have C3_4 := (Ext.alloc w12 (.cells #[.int .i64 q, .int .i64 q0, .int .i64 q1, .int .i64 q2, .int .i64 q3, .int .i64 q4, .int .i64 q5] 26)).cell_some C3_4
  have C3_5 := (Ext.alloc w12 (.cells #[.int .i64 q, .int .i64 q0, .int .i64 q1, .int .i64 q2, .int .i64 q3, .int .i64 q4, .int .i64 q5] 26)).cell_some C3_5
  have C3_6 := (Ext.alloc w12 (.cells #[.int .i64 q, .int .i64 q0, .int .i64 q1, .int .i64 q2, .int .i64 q3, .int .i64 q4, .int .i64 q5] 26)).cell_some C3_6
  have K0 := (Ext.alloc w12 (.cells #[.int .i64 q, .int .i64 q0, .int .i64 q1, .int .i64 q2, .int .i64 q3, .int .i64 q4, .int .i64 q5] 26)).cell_some K0
  have K1 := (Ext.alloc w12 (.cells #[.int .i64 q, .int .i64 q0, .int .i64 q1, .int .i64 q2, .int .i64 q3, .int .i64 q4, .int .i64 q5] 26)).cell_some K1
  go_wp2_with fail
  obtain ⟨v12, hv⟩ : ∃ v, v = w12.alloc (.cells #[.int .i64 q, .int .i64 q0, .int .i64 q1, .int .i64 q2, .int .i64 q3, .int .i64 q4, .int .i64 q5] 26) := ⟨_, rfl⟩
  try rw [← hv]
  have x0 : Ext w v12 := hv ▸ x0.al _
  have B12 : Hid (Box v12 w12.heap.size ⟨q, q0, q1, q2, q3, q4, q5⟩) := Lib.hid (hv ▸ Box.new w12 26 q q0 q1 q2 q3 q4 q5)
  have B3 : Hid (Box v12 _ _) := Lib.hid (B3.out.ext (hv ▸ Ext.alloc w12 _))
  have B4 : Hid (Box v12 _ _) := Lib.hid (B4.out.ext (hv ▸ Ext.alloc w12 _))
  have B5 : Hid (Pair v12 _ _ _) := Lib.hid (B5.out.ext (hv ▸ Ext.alloc w12 _))
  have B7 : Hid (Box v12 _ _) := Lib.hid (B7.out.ext (hv ▸ Ext.alloc w12 _))
  have B8 : Hid (Box v12 _ _) := Lib.hid (B8.out.ext (hv ▸ Ext.alloc w12 _))
  have B10 : Hid (Box v12 _ _) := Lib.hid (B10.out.ext (hv ▸ Ext.alloc w12 _))
  clear C3_0 C3_1 C3_2 C3_3 C3_4 C3_5 C3_6
  clear K0 K1
  generalize w12.heap.size = b12 at *
  clear hv
  refine (N10.out _).mono ?_
  rintro e w14 ⟨rfl, x1⟩
  have B3 := Lib.hid (B3.out.ext x1)
  have B4 := Lib.hid (B4.out.ext x1)
  have B5 := Lib.hid (B5.out.ext x1)
  have B7 := Lib.hid (B7.out.ext x1)
  have B8 := Lib.hid (B8.out.ext x1)
  have B10 := Lib.hid (B10.out.ext x1)
  have B12 := Lib.hid (B12.out.ext x1)
  have x0 := x0.trans x1
  clear x1
  obtain ⟨C7_0, C7_1, C7_2, C7_3, C7_4, C7_5, C7_6⟩ := B7.out.cells
  obtain ⟨C4_0, C4_1, C4_2, C4_3, C4_4, C4_5, C4_6⟩ := B4.out.cells
  have C7_0 := (Ext.alloc w14 (.cells #[.int .i64 q, .int .i64 q0, .int .i64 q1, .int .i64 q2, .int .i64 q3, .int .i64 q4, .int .i64 q5] 24)).cell_some C7_0
  have C7_1 := (Ext.alloc w14 (.cells #[.int .i64 q, .int .i64 q0, .int .i64 q1, .int .i64 q2, .int .i64 q3, .int .i64 q4, .int .i64 q5] 24)).cell_some C7_1
  have C7_2 := (Ext.alloc w14 (.cells #[.int .i64 q, .int .i64 q0, .int .i64 q1, .int .i64 q2, .int .i64 q3, .int .i64 q4, .int .i64 q5] 24)).cell_some C7_2
  have C7_3 := (Ext.alloc w14 (.cells #[.int .i64 q, .int .i64 q0, .int .i64 q1, .int .i64 q2, .int .i64 q3, .int .i64 q4, .int .i64 q5] 24)).cell_some C7_3
  have C7_4 := (Ext.alloc w14 (.cells #[.int .i64 q, .int .i64 q0, .int .i64 q1, .int .i64 q2, .int .i64 q3, .int .i64 q4, .int .i64 q5] 24)).cell_some C7_4
  have C7_5 := (Ext.alloc w14 (.cells #[.int .i64 q, .int .i64 q0, .int .i64 q1, .int .i64 q2, .int .i64 q3, .int .i64 q4, .int .i64 q5] 24)).cell_some C7_5
  have C7_6 := (Ext.alloc w14 (.cells #[.int .i64 q, .int .i64 q0, .int .i64 q1, .int .i64 q2, .int .i64 q3, .int .i64 q4, .int .i64 q5] 24)).cell_some C7_6
  have C4_0 := (Ext.alloc w14 (.cells #[.int .i64 q, .int .i64 q0, .int .i64 q1, .int .i64 q2, .int .i64 q3, .int .i64 q4, .int .i64 q5] 24)).cell_some C4_0
  have C4_1 := (Ext.alloc w14 (.cells #[.int .i64 q, .int .i64 q0, .int .i64 q1, .int .i64 q2, .int .i64 q3, .int .i64 q4, .int .i64 q5] 24)).cell_some C4_1
  have C4_2 := (Ext.alloc w14 (.cells #[.int .i64 q, .int .i64 q0, .int .i64 q1, .int .i64 q2, .int .i64 q3, .int .i64 q4, .int .i64 q5] 24)).cell_some C4_2
  have C4_3 := (Ext.alloc w14 (.cells #[.int .i64 q, .int .i64 q0, .int .i64 q1, .int .i64 q2, .int .i64 q3, .int .i64 q4, .int .i64 q5] 24)).cell_some C4_3
  have C4_4 := (Ext.alloc w14 (.cells #[.int .i64 q, .int .i64 q0, .int .i64 q1, .int .i64 q2, .int .i64 q3, .int .i64 q4, .int .i64 q5] 24)).cell_some C4_4
  have C4_5 := (Ext.alloc w14 (.cells #[.int .i64 q, .int .i64 q0, .int .i64 q1, .int .i64 q2, .int .i64 q3, .int .i64 q4, .int .i64 q5] 24)).cell_some C4_5
  have C4_6 := (Ext.alloc w14 (.cells #[.int .i64 q, .int .i64 q0, .int .i64 q1, .int .i64 q2, .int .i64 q3, .int .i64 q4, .int .i64 q5] 24)).cell_some C4_6
  go_wp2_with fail
  obtain ⟨v14, hv⟩ : ∃ v, v = w14.alloc (.cells #[.int .i64 q, .int .i64 q0, .int .i64 q1, .int .i64 q2, .int .i64 q3, .int .i64 q4, .int .i64 q5] 24) := ⟨_, rfl⟩
  try rw [← hv]
  have x0 : Ext w v14 := hv ▸ x0.al _
  have B14 : Hid (Box v14 w14.heap.size ⟨q, q0, q1, q2, q3, q4, q5⟩) := Lib.hid (hv ▸ Box.new w14 24 q q0 q1 q2 q3 q4 q5)
  have B3 : Hid (Box v14 _ _) := Lib.hid (B3.out.ext (hv ▸ Ext.alloc w14 _))
  have B4 : Hid (Box v14 _ _) := Lib.hid (B4.out.ext (hv ▸ Ext.alloc w14 _))
  have B5 : Hid (Pair v14 _ _ _) := Lib.hid (B5.out.ext (hv ▸ Ext.alloc w14 _))
  have B7 : Hid (Box v14 _ _) := Lib.hid (B7.out.ext (hv ▸ Ext.alloc w14 _))
  have B8 : Hid (Box v14 _ _) := Lib.hid (B8.out.ext (hv ▸ Ext.alloc w14 _))
  have B10 : Hid (Box v14 _ _) := Lib.hid (B10.out.ext (hv ▸ Ext.alloc w14 _))
  have B12 : Hid (Box v14 _ _) := Lib.hid (B12.out.ext (hv ▸ Ext.alloc w14 _))
  clear C7_0 C7_1 C7_2 C7_3 C7_4 C7_5 C7_6
  clear C4_0 C4_1 C4_2 C4_3 C4_4 C4_5 C4_6
  generalize w14.heap.size = b14 at *
  clear hv
  refine (N11.out _).mono ?_
  rintro e w16 ⟨rfl, x1⟩
  have B3 := Lib.hid (B3.out.ext x1)
  have B4 := Lib.hid (B4.out.ext x1)
  have B5 := Lib.hid (B5.out.ext x1)
  have B7 := Lib.hid (B7.out.ext x1)
  have B8 := Lib.hid (B8.out.ext x1)
  have B10 := Lib.hid (B10.out.ext x1)
  have B12 := Lib.hid (B12.out.ext x1)
  have B14 := Lib.hid (B14.out.ext x1)
  have x0 := x0.trans x1
  clear x1
  obtain ⟨C3_0, C3_1, C3_2, C3_3, C3_4, C3_5, C3_6⟩ := B3.out.cells
  obtain ⟨C4_0, C4_1, C4_2, C4_3, C4_4, C4_5, C4_6⟩ := B4.out.cells
  have C3_0 := (Ext.alloc w16 (.cells #[.int .i64 s, .int .i64 s0, .int .i64 s1, .int .i64 s2, .int .i64 s3, .int .i64 s4, .int .i64 s5] 26)).cell_some C3_0
  have C3_1 := (Ext.alloc w16 (.cells #[.int .i64 s, .int .i64 s0, .int .i64 s1, .int .i64 s2, .int .i64 s3, .int .i64 s4, .int .i64 s5] 26)).cell_some C3_1
  have C3_2 := (Ext.alloc w16 (.cells #[.int .i64 s, .int .i64 s0, .int .i64 s1, .int .i64 s2, .int .i64 s3, .int .i64 s4, .int .i64 s5] 26)).cell_some C3_2
  have C3_3 := (Ext.alloc w16 (.cells #[.int .i64 s, .int .i64 s0, .int .i64 s1, .int .i64 s2, .int .i64 s3, .int .i64 s4, .int .i64 s5] 26)).cell_some C3_3
  have C3_4 := (Ext.alloc w16 (.cells #[.int .i64 s, .int .i64 s0, .int .i64 s1, .int .i64 s2, .int .i64 s3, .int .i64 s4, .int .i64 s5] 26)).cell_some C3_4
  have C3_5 := (Ext.alloc w16 (.cells #[.int .i64 s, .int .i64 s0, .int .i64 s1, .int .i64 s2, .int .i64 s3, .int .i64 s4, .int .i64 s5] 26)).cell_some C3_5
  have C3_6 := (Ext.alloc w16 (.cells #[.int .i64 s, .int .i64 s0, .int .i64 s1, .int .i64 s2, .int .i64 s3, .int .i64 s4, .int .i64 s5] 26)).cell_some C3_6
  have C4_0 := (Ext.alloc w16 (.cells #[.int .i64 s, .int .i64 s0, .int .i64 s1, .int .i64 s2, .int .i64 s3, .int .i64 s4, .int .i64 s5] 26)).cell_some C4_0
  have C4_1 := (Ext.alloc w16 (.cells #[.int .i64 s, .int .i64 s0, .int .i64 s1, .int .i64 s2, .int .i64 s3, .int .i64 s4, .int .i64 s5] 26)).cell_some C4_1
  have C4_2 := (Ext.alloc w16 (.cells #[.int .i64 s, .int .i64 s0, .int .i64 s1, .int .i64 s2, .int .i64 s3, .int .i64 s4, .int .i64 s5] 26)).cell_some C4_2
  have C4_3 := (Ext.alloc w16 (.cells #[.int .i64 s, .int .i64 s0, .int .i64 s1, .int .i64 s2, .int .i64 s3, .int .i64 s4, .int .i64 s5] 26)).cell_some C4_3
  have C4_4 := (Ext.alloc w16 (.cells #[.int .i64 s, .int .i64 s0, .int .i64 s1, .int .i64 s2, .int .i64 s3, .int .i64 s4, .int .i64 s5] 26)).cell_some C4_4
  have C4_5 := (Ext.alloc w16 (.cells #[.int .i64 s, .int .i64 s0, .int .i64 s1, .int .i64 s2, .int .i64 s3, .int .i64 s4, .int .i64 s5] 26)).cell_some C4_5
  have C4_6 := (Ext.alloc w16 (.cells #[.int .i64 s, .int .i64 s0, .int .i64 s1, .int .i64 s2, .int .i64 s3, .int .i64 s4, .int .i64 s5] 26)).cell_some C4_6
  go_wp2_with fail
  obtain ⟨v16, hv⟩ : ∃ v, v = w16.alloc (.cells #[.int .i64 s, .int .i64 s0, .int .i64 s1, .int .i64 s2, .int .i64 s3, .int .i64 s4, .int .i64 s5] 26) := ⟨_, rfl⟩
  try rw [← hv]
  have x0 : Ext w v16 := hv ▸ x0.al _
  have B16 : Hid (Box v16 w16.heap.size ⟨s, s0, s1, s2, s3, s4, s5⟩) := Lib.hid (hv ▸ Box.new w16 26 s s0 s1 s2 s3 s4 s5)
  have B3 : Hid (Box v16 _ _) := Lib.hid (B3.out.ext (hv ▸ Ext.alloc w16 _))
  have B4 : Hid (Box v16 _ _) := Lib.hid (B4.out.ext (hv ▸ Ext.alloc w16 _))
  have B5 : Hid (Pair v16 _ _ _) := Lib.hid (B5.out.ext (hv ▸ Ext.alloc w16 _))
  have B7 : Hid (Box v16 _ _) := Lib.hid (B7.out.ext (hv ▸ Ext.alloc w16 _))
  have B8 : Hid (Box v16 _ _) := Lib.hid (B8.out.ext (hv ▸ Ext.alloc w16 _))
  have B10 : Hid (Box v16 _ _) := Lib.hid (B10.out.ext (hv ▸ Ext.alloc w16 _))
  have B12 : Hid (Box v16 _ _) := Lib.hid (B12.out.ext (hv ▸ Ext.alloc w16 _))
  have B14 : Hid (Box v16 _ _) := Lib.hid (B14.out.ext (hv ▸ Ext.alloc w16 _))
  clear C3_0 C3_1 C3_2 C3_3 C3_4 C3_5 C3_6
  clear C4_0 C4_1 C4_2 C4_3 C4_4 C4_5 C4_6
  generalize w16.heap.size = b16 at *
  clear hv
  refine (N12.out _).mono ?_
  rintro e w18 ⟨rfl, x1⟩
  have B3 := Lib.hid (B3.out.ext x1)
  have B4 := Lib.hid (B4.out.ext x1)
  have B5 := Lib.hid (B5.out.ext x1)
  have B7 := Lib.hid (B7.out.ext x1)
  have B8 := Lib.hid (B8.out.ext x1)
  have B10 := Lib.hid (B10.out.ext x1)
  have B12 := Lib.hid (B12.out.ext x1)
  have B14 := Lib.hid (B14.out.ext x1)
  have B16 := Lib.hid (B16.out.ext x1)
  have x0 := x0.trans x1
  clear x1
  go_wp2_with fail
  refine region_held none [(0, true), (1, true), (2, true), (3, true), (4, true), (5, true), (6, true), (7, true), (8, true), (9, true), (10, true), (11, true), (12, true), (13, true), (14, true), (15, true), (16, true), (17, true), (18, true), (19, true), (20, true), (21, true), (22, true), (23, true), (25, true), (26, true), (27, true), (28, true), (29, true), (24, false), (30, false), (31, true), (32, true), (33, true), (34, true), (35, true), (36, true), (37, true), (38, true), (39, true), (40, true), (41, true), (42, true), (43, true), (44, false), (45, true)] [46] (by kernel_rfl) (by kernel_rfl) (fun _ _ d _ _ h => by cases d <;> exact h) (fun W hW => ?_)
  simp only [pick, pickF, List.getElem?_cons_zero, List.getElem?_cons_succ]
  have xW : Ext w18 W := by rw [hW]; exact (Ext.alloc w18 (.cells #[.int .i64 s, .int .i64 s0, .int .i64 s1, .int .i64 s2, .int .i64 s3, .int .i64 s4, .int .i64 s5] 24)).dr
  have B18 : Hid (Box W w18.heap.size ⟨s, s0, s1, s2, s3, s4, s5⟩) := Lib.hid (by rw [hW]; exact (Box.new w18 24 s s0 s1 s2 s3 s4 s5).ext (Ext.drew _))
  have B3 : Hid (Box W _ _) := Lib.hid (B3.out.ext xW)
  have B4 : Hid (Box W _ _) := Lib.hid (B4.out.ext xW)
  have B5 : Hid (Pair W _ _ _) := Lib.hid (B5.out.ext xW)
  have B7 : Hid (Box W _ _) := Lib.hid (B7.out.ext xW)
  have B8 : Hid (Box W _ _) := Lib.hid (B8.out.ext xW)
  have B10 : Hid (Box W _ _) := Lib.hid (B10.out.ext xW)
  have B12 : Hid (Box W _ _) := Lib.hid (B12.out.ext xW)
  have B14 : Hid (Box W _ _) := Lib.hid (B14.out.ext xW)
  have B16 : Hid (Box W _ _) := Lib.hid (B16.out.ext xW)
  have x0 := x0.trans xW
  clear hW xW
  have xe := Ext.refl W
  refine held_yes (xe.gr _) _ rfl (fun w1 hw1 => by obtain ⟨c0, c1, c2, c3, c4, c5, c6⟩ := B8.out.seen hw1; unfold Oper.quietAt; go_simp; rfl) ?_
  simp only [Act.put, List.setIfInBounds_toArray, List.set_cons_zero, List.set_cons_succ]
  refine held_yes (xe.gr _) _ rfl (fun w1 hw1 => by obtain ⟨c0, c1, c2, c3, c4, c5, c6⟩ := B10.out.seen hw1; unfold Oper.quietAt; go_simp; rfl) ?_
  simp only [Act.put, List.setIfInBounds_toArray, List.set_cons_zero, List.set_cons_succ]
  refine held_yes (xe.gr _) _ rfl (fun w1 hw1 => by unfold Oper.quietAt; go_simp; rfl) ?_
  simp only [Act.put, List.setIfInBounds_toArray, List.set_cons_zero, List.set_cons_succ]
  refine held_yes (xe.gr _) _ rfl (fun w1 hw1 => by unfold Oper.quietAt; go_simp; rfl) ?_
  simp only [Act.put, List.setIfInBounds_toArray, List.set_cons_zero, List.set_cons_succ]
  refine held_yesG (xe.gr _) _ rfl (fun w1 hw1 => by unfold Oper.quietAt; go_simp; rfl) ?_
  simp only [Act.put, List.setIfInBounds_toArray, List.set_cons_zero, List.set_cons_succ]
  refine held_yesG (xe.gr _) _ rfl (fun w1 hw1 => by unfold Oper.quietAt; go_simp; rfl) ?_
  simp only [Act.put, List.setIfInBounds_toArray, List.set_cons_zero, List.set_cons_succ]
  refine held_yesG (xe.gr _) _ rfl (fun w1 hw1 => by unfold Oper.quietAt; go_simp; rfl) ?_
  simp only [Act.put, List.setIfInBounds_toArray, List.set_cons_zero, List.set_cons_succ]
  refine held_yes (xe.gr _) _ rfl (fun w1 hw1 => by unfold Oper.quietAt; go_simp; rfl) ?_
  simp only [Act.put, List.setIfInBounds_toArray, List.set_cons_zero, List.set_cons_succ]
  refine held_yes (xe.gr _) _ rfl (fun w1 hw1 => by unfold Oper.quietAt; go_simp; rfl) ?_
  simp only [Act.put, List.setIfInBounds_toArray, List.set_cons_zero, List.set_cons_succ]
  refine held_yesG (xe.gr _) _ rfl (fun w1 hw1 => by obtain ⟨c0, c1, c2, c3, c4, c5, c6⟩ := B12.out.seen hw1; unfold Oper.quietAt; go_simp; rfl) ?_
  simp only [Act.put, List.setIfInBounds_toArray, List.set_cons_zero, List.set_cons_succ]
  refine held_yesG (xe.gr _) _ rfl (fun w1 hw1 => by obtain ⟨c0, c1, c2, c3, c4, c5, c6⟩ := B14.out.seen hw1; unfold Oper.quietAt; go_simp; rfl) ?_
  simp only [Act.put, List.setIfInBounds_toArray, List.set_cons_zero, List.set_cons_succ]
  refine held_yesG (xe.gr _) _ rfl (fun w1 hw1 => by unfold Oper.quietAt; go_simp; rfl) ?_
  simp only [Act.put, List.setIfInBounds_toArray, List.set_cons_zero, List.set_cons_succ]
  refine held_yes (xe.gr _) _ rfl (fun w1 hw1 => by unfold Oper.quietAt; go_simp; rfl) ?_
  simp only [Act.put, List.setIfInBounds_toArray, List.set_cons_zero, List.set_cons_succ]
  refine held_yes (xe.gr _) _ rfl (fun w1 hw1 => by unfold Oper.quietAt; go_simp; rfl) ?_
  simp only [Act.put, List.setIfInBounds_toArray, List.set_cons_zero, List.set_cons_succ]
  refine held_yesG (xe.gr _) _ rfl (fun w1 hw1 => by unfold Oper.quietAt; go_simp; rfl) ?_
  simp only [Act.put, List.setIfInBounds_toArray, List.set_cons_zero, List.set_cons_succ]
  refine held_yesG (xe.gr _) _ rfl (fun w1 hw1 => by unfold Oper.quietAt; go_simp; rfl) ?_
  simp only [Act.put, List.setIfInBounds_toArray, List.set_cons_zero, List.set_cons_succ]
  refine held_yesG (xe.gr _) _ rfl (fun w1 hw1 => by unfold Oper.quietAt; go_simp; rfl) ?_
  simp only [Act.put, List.setIfInBounds_toArray, List.set_cons_zero, List.set_cons_succ]
  refine held_yes (xe.gr _) _ rfl (fun w1 hw1 => by unfold Oper.quietAt; go_simp; rfl) ?_
  simp only [Act.put, List.setIfInBounds_toArray, List.set_cons_zero, List.set_cons_succ]
  refine held_yes (xe.gr _) _ rfl (fun w1 hw1 => by unfold Oper.quietAt; go_simp; rfl) ?_
  simp only [Act.put, List.setIfInBounds_toArray, List.set_cons_zero, List.set_cons_succ]
  refine held_yesG (xe.gr _) _ rfl (fun w1 hw1 => by obtain ⟨c0, c1, c2, c3, c4, c5, c6⟩ := B7.out.seen hw1; unfold Oper.quietAt; go_simp; rfl) ?_
  simp only [Act.put, List.setIfInBounds_toArray, List.set_cons_zero, List.set_cons_succ]
  refine held_yesG (xe.gr _) _ rfl (fun w1 hw1 => by unfold Oper.quietAt; go_simp; rfl) ?_
  simp only [Act.put, List.setIfInBounds_toArray, List.set_cons_zero, List.set_cons_succ]
  refine held_yesG (xe.gr _) _ rfl (fun w1 hw1 => by obtain ⟨c0, c1⟩ := B5.out.seen hw1; unfold Oper.quietAt; go_simp; rfl) ?_
  simp only [Act.put, List.setIfInBounds_toArray, List.set_cons_zero, List.set_cons_succ]
  refine held_yesG (xe.gr _) _ rfl (fun w1 hw1 => by unfold Oper.quietAt; go_simp; rfl) ?_
  simp only [Act.put, List.setIfInBounds_toArray, List.set_cons_zero, List.set_cons_succ]
  refine held_yesG (xe.gr _) _ rfl (fun w1 hw1 => by obtain ⟨c0, c1⟩ := B5.out.seen hw1; unfold Oper.quietAt; go_simp; rfl) ?_
  simp only [Act.put, List.setIfInBounds_toArray, List.set_cons_zero, List.set_cons_succ]
  refine held_yesG (xe.gr _) _ rfl (fun w1 hw1 => by obtain ⟨c0, c1, c2, c3, c4, c5, c6⟩ := B3.out.seen hw1; unfold Oper.quietAt; go_simp; rfl) ?_
  simp only [Act.put, List.setIfInBounds_toArray, List.set_cons_zero, List.set_cons_succ]
  refine held_yesG (xe.gr _) _ rfl (fun w1 hw1 => by unfold Oper.quietAt; go_simp; rfl) ?_
  simp only [Act.put, List.setIfInBounds_toArray, List.set_cons_zero, List.set_cons_succ]
  refine held_yesG (xe.gr _) _ rfl (fun w1 hw1 => by obtain ⟨c0, c1⟩ := B5.out.seen hw1; unfold Oper.quietAt; go_simp; rfl) ?_
  simp only [Act.put, List.setIfInBounds_toArray, List.set_cons_zero, List.set_cons_succ]
  refine held_yesG (xe.gr _) _ rfl (fun w1 hw1 => by unfold Oper.quietAt; go_simp; rfl) ?_
  simp only [Act.put, List.setIfInBounds_toArray, List.set_cons_zero, List.set_cons_succ]
  refine held_yesG (xe.gr _) _ rfl (fun w1 hw1 => by obtain ⟨c0, c1⟩ := B5.out.seen hw1; unfold Oper.quietAt; go_simp; rfl) ?_
  simp only [Act.put, List.setIfInBounds_toArray, List.set_cons_zero, List.set_cons_succ]
  refine held_stepG rfl (fun K hK => ?_)
  go_simp
  refine (fits_any _ c a0 a1 a2 a3 a4 a5 k n).mono ?_
  rintro e w2 ⟨rfl, x2⟩
  have xe := xe.trans x2
  refine hK _ _ (xe.gr _) ?_
  clear hK K x2
  refine held_stepG rfl (fun K hK => ?_)
  go_simp
  refine (rfits_any _ c a0 a1 a2 a3 a4 a5 k n).mono ?_
  rintro e w2 ⟨rfl, x2⟩
  have xe := xe.trans x2
  refine hK _ _ (xe.gr _) ?_
  clear hK K x2
  refine held_yesG (xe.gr _) _ rfl (fun w1 hw1 => by unfold Oper.quietAt; go_simp; rfl) ?_
  simp only [Act.put, List.setIfInBounds_toArray, List.set_cons_zero, List.set_cons_succ]
  refine held_yes (xe.gr _) _ rfl (fun w1 hw1 => by unfold Oper.quietAt; go_simp; rfl) ?_
  simp only [Act.put, List.setIfInBounds_toArray, List.set_cons_zero, List.set_cons_succ]
  refine held_yes (xe.gr _) _ rfl (fun w1 hw1 => by unfold Oper.quietAt; go_simp; rfl) ?_
  simp only [Act.put, List.setIfInBounds_toArray, List.set_cons_zero, List.set_cons_succ]
  refine held_yesG (xe.gr _) _ rfl (fun w1 hw1 => by obtain ⟨c0, c1, c2, c3, c4, c5, c6⟩ := B16.out.seen hw1; unfold Oper.quietAt; go_simp; rfl) ?_
  simp only [Act.put, List.setIfInBounds_toArray, List.set_cons_zero, List.set_cons_succ]
  refine held_yesG (xe.gr _) _ rfl (fun w1 hw1 => by obtain ⟨c0, c1, c2, c3, c4, c5, c6⟩ := B18.out.seen hw1; unfold Oper.quietAt; go_simp; rfl) ?_
  simp only [Act.put, List.setIfInBounds_toArray, List.set_cons_zero, List.set_cons_succ]
  refine held_yesG (xe.gr _) _ rfl (fun w1 hw1 => by unfold Oper.quietAt; go_simp; rfl) ?_
  simp only [Act.put, List.setIfInBounds_toArray, List.set_cons_zero, List.set_cons_succ]
  refine held_yes (xe.gr _) _ rfl (fun w1 hw1 => by unfold Oper.quietAt; go_simp; rfl) ?_
  simp only [Act.put, List.setIfInBounds_toArray, List.set_cons_zero, List.set_cons_succ]
  refine held_yes (xe.gr _) _ rfl (fun w1 hw1 => by unfold Oper.quietAt; go_simp; rfl) ?_
  simp only [Act.put, List.setIfInBounds_toArray, List.set_cons_zero, List.set_cons_succ]
  refine held_yesG (xe.gr _) _ rfl (fun w1 hw1 => by unfold Oper.quietAt; go_simp; rfl) ?_
  simp only [Act.put, List.setIfInBounds_toArray, List.set_cons_zero, List.set_cons_succ]
  refine held_yesG (xe.gr _) _ rfl (fun w1 hw1 => by unfold Oper.quietAt; go_simp; rfl) ?_
  simp only [Act.put, List.setIfInBounds_toArray, List.set_cons_zero, List.set_cons_succ]
  refine held_yesG (xe.gr _) _ rfl (fun w1 hw1 => by unfold Oper.quietAt; go_simp; rfl) ?_
  simp only [Act.put, List.setIfInBounds_toArray, List.set_cons_zero, List.set_cons_succ]
  refine held_yes (xe.gr _) _ rfl (fun w1 hw1 => by unfold Oper.quietAt; go_simp; rfl) ?_
  simp only [Act.put, List.setIfInBounds_toArray, List.set_cons_zero, List.set_cons_succ]
  refine held_yes (xe.gr _) _ rfl (fun w1 hw1 => by unfold Oper.quietAt; go_simp; rfl) ?_
  simp only [Act.put, List.setIfInBounds_toArray, List.set_cons_zero, List.set_cons_succ]
  refine held_stepG rfl (fun K hK => ?_)
  go_simp
  refine (awake_any _).mono ?_
  rintro e w2 ⟨rfl, x2⟩
  have xe := xe.trans x2
  refine hK _ _ (xe.gr _) ?_
  clear hK K x2
  refine held_yes (xe.gr _) _ rfl (fun w1 hw1 => by unfold Oper.quietAt; go_simp; rfl) ?_
  simp only [Act.put, List.setIfInBounds_toArray, List.set_cons_zero, List.set_cons_succ]
  refine held_nil ?_
  go_wp2_with fail
  go_ret
  exact ⟨rfl, x0.trans xe⟩

end Go.Proofs.Ytnldfglgdchinaa
