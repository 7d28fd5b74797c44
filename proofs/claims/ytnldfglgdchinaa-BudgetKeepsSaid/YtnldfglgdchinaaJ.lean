/- What two states are together. -/
import Derived.Test.YtnldfglgdchinaaI
namespace Go.Proofs.Ytnldfglgdchinaa
set_option linter.unusedSimpArgs false
set_option linter.unusedVariables false
open Go.RowKit

theorem Box.other {w : World} {b : Nat} {s : S} (h : Box w b s) {b' o : Nat} {u : Value} (hne : b ≠ b') : Box (w.setCell ⟨b', o, none⟩ u) b s := by
  obtain ⟨⟨c0, c1, c2, c3, c4, c5, c6⟩, ⟨f0, f1, f2, f3, f4, f5, f6⟩⟩ := h
  have hb : (w.setCell ⟨b', o, none⟩ u).heap[b]? = w.heap[b]? := Below.heap_setCell _ _ _ _ hne
  exact ⟨⟨(World.cell?_of_block (w := w) hb).trans c0, (World.cell?_of_block (w := w) hb).trans c1, (World.cell?_of_block (w := w) hb).trans c2, (World.cell?_of_block (w := w) hb).trans c3, (World.cell?_of_block (w := w) hb).trans c4, (World.cell?_of_block (w := w) hb).trans c5, (World.cell?_of_block (w := w) hb).trans c6⟩, ⟨(World.frozen?_of_block (w := w) hb).trans f0, (World.frozen?_of_block (w := w) hb).trans f1, (World.frozen?_of_block (w := w) hb).trans f2, (World.frozen?_of_block (w := w) hb).trans f3, (World.frozen?_of_block (w := w) hb).trans f4, (World.frozen?_of_block (w := w) hb).trans f5, (World.frozen?_of_block (w := w) hb).trans f6⟩⟩

theorem Box.put0 {w : World} {b : Nat} {s : S} (h : Box w b s) (v : Int) : Box (w.setCell ⟨b, 1, none⟩ (.int .i64 v)) b ⟨s.c, v, s.a1, s.a2, s.a3, s.a4, s.a5⟩ := by
  obtain ⟨⟨c0, c1, c2, c3, c4, c5, c6⟩, ⟨f0, f1, f2, f3, f4, f5, f6⟩⟩ := h
  exact ⟨⟨by go_simp, by go_simp, by go_simp, by go_simp, by go_simp, by go_simp, by go_simp⟩, ⟨by go_simp, by go_simp, by go_simp, by go_simp, by go_simp, by go_simp, by go_simp⟩⟩

theorem Box.put1 {w : World} {b : Nat} {s : S} (h : Box w b s) (v : Int) : Box (w.setCell ⟨b, 2, none⟩ (.int .i64 v)) b ⟨s.c, s.a0, v, s.a2, s.a3, s.a4, s.a5⟩ := by
  obtain ⟨⟨c0, c1, c2, c3, c4, c5, c6⟩, ⟨f0, f1, f2, f3, f4, f5, f6⟩⟩ := h
  exact ⟨⟨by go_simp, by go_simp, by go_simp, by go_simp, by go_simp, by go_simp, by go_simp⟩, ⟨by go_simp, by go_simp, by go_simp, by go_simp, by go_simp, by go_simp, by go_simp⟩⟩

theorem Box.put2 {w : World} {b : Nat} {s : S} (h : Box w b s) (v : Int) : Box (w.setCell ⟨b, 3, none⟩ (.int .i64 v)) b ⟨s.c, s.a0, s.a1, v, s.a3, s.a4, s.a5⟩ := by
  obtain ⟨⟨c0, c1, c2, c3, c4, c5, c6⟩, ⟨f0, f1, f2, f3, f4, f5, f6⟩⟩ := h
  exact ⟨⟨by go_simp, by go_simp, by go_simp, by go_simp, by go_simp, by go_simp, by go_simp⟩, ⟨by go_simp, by go_simp, by go_simp, by go_simp, by go_simp, by go_simp, by go_simp⟩⟩

theorem Box.put3 {w : World} {b : Nat} {s : S} (h : Box w b s) (v : Int) : Box (w.setCell ⟨b, 4, none⟩ (.int .i64 v)) b ⟨s.c, s.a0, s.a1, s.a2, v, s.a4, s.a5⟩ := by
  obtain ⟨⟨c0, c1, c2, c3, c4, c5, c6⟩, ⟨f0, f1, f2, f3, f4, f5, f6⟩⟩ := h
  exact ⟨⟨by go_simp, by go_simp, by go_simp, by go_simp, by go_simp, by go_simp, by go_simp⟩, ⟨by go_simp, by go_simp, by go_simp, by go_simp, by go_simp, by go_simp, by go_simp⟩⟩

theorem Box.put4 {w : World} {b : Nat} {s : S} (h : Box w b s) (v : Int) : Box (w.setCell ⟨b, 5, none⟩ (.int .i64 v)) b ⟨s.c, s.a0, s.a1, s.a2, s.a3, v, s.a5⟩ := by
  obtain ⟨⟨c0, c1, c2, c3, c4, c5, c6⟩, ⟨f0, f1, f2, f3, f4, f5, f6⟩⟩ := h
  exact ⟨⟨by go_simp, by go_simp, by go_simp, by go_simp, by go_simp, by go_simp, by go_simp⟩, ⟨by go_simp, by go_simp, by go_simp, by go_simp, by go_simp, by go_simp, by go_simp⟩⟩

theorem Box.put5 {w : World} {b : Nat} {s : S} (h : Box w b s) (v : Int) : Box (w.setCell ⟨b, 6, none⟩ (.int .i64 v)) b ⟨s.c, s.a0, s.a1, s.a2, s.a3, s.a4, v⟩ := by
  obtain ⟨⟨c0, c1, c2, c3, c4, c5, c6⟩, ⟨f0, f1, f2, f3, f4, f5, f6⟩⟩ := h
  exact ⟨⟨by go_simp, by go_simp, by go_simp, by go_simp, by go_simp, by go_simp, by go_simp⟩, ⟨by go_simp, by go_simp, by go_simp, by go_simp, by go_simp, by go_simp, by go_simp⟩⟩

/-- Of a the first k have the second's. -/
def plusK (c a0 a1 a2 a3 a4 a5 b0 b1 b2 b3 b4 b5 : Int) (k : Nat) : S :=
  match k with
  | 0 => ⟨c, a0, a1, a2, a3, a4, a5⟩
  | 1 => ⟨c, a0 + b0, a1, a2, a3, a4, a5⟩
  | 2 => ⟨c, a0 + b0, a1 + b1, a2, a3, a4, a5⟩
  | 3 => ⟨c, a0 + b0, a1 + b1, a2 + b2, a3, a4, a5⟩
  | 4 => ⟨c, a0 + b0, a1 + b1, a2 + b2, a3 + b3, a4, a5⟩
  | 5 => ⟨c, a0 + b0, a1 + b1, a2 + b2, a3 + b3, a4 + b4, a5⟩
  | _ => ⟨c, a0 + b0, a1 + b1, a2 + b2, a3 + b3, a4 + b4, a5 + b5⟩

def S.plus (a b : S) : S := plusK a.c a.a0 a.a1 a.a2 a.a3 a.a4 a.a5 b.a0 b.a1 b.a2 b.a3 b.a4 b.a5 6

def S.mergeE (a b : S) : Int := if a.check ≠ 0 then a.check else if b.check ≠ 0 then b.check else if a.c ≠ b.c then 2 else if b.left < a.sum then 7 else 0
def S.merge (a b : S) : S := if a.mergeE b = 0 then a.plus b else ⟨0, 0, 0, 0, 0, 0, 0⟩

end Go.Proofs.Ytnldfglgdchinaa
