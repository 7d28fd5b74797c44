/- Arguments, opened to numbers. -/
import Derived.Test.YtnldfglgdchinaaRows
import Derived.Lib.SmallJoins
import Derived.ProofKit
import Derived.OpenShut
import Derived.ShutString
import Derived.ChangeOld
import Derived.Below
import Derived.Deep.Slices
import Derived.Deep.Fields
import Derived.ChangeSame
namespace Go.Proofs.Ytnldfglgdchinaa
set_option linter.unusedSimpArgs false
set_option linter.unusedVariables false
open Go.ChangeShapes Go.WideShapes Go.ChangeAt Go.RowKit Go.Deep Go.Joins
open Go.ChangeMaps (open_string shut_string)

theorem array7 {α : Type} {cs : Array α} (h : cs.size = 7) : ∃ c0 c1 c2 c3 c4 c5 c6, cs = #[c0, c1, c2, c3, c4, c5, c6] := by
  obtain ⟨l⟩ := cs
  match l, h with
  | [c0, c1, c2, c3, c4, c5, c6], _ => exact ⟨c0, c1, c2, c3, c4, c5, c6, rfl⟩

theorem cells24 : Try.prog.cellsOf 24 = 7 := by kernel_rfl
theorem cells22 : Try.prog.cellsOf 22 = 6 := by kernel_rfl
theorem cells25 : Try.prog.cellsOf 25 = 2 := by kernel_rfl
theorem cells3 : Try.prog.cellsOf 3 = 1 := by kernel_rfl

theorem six_parts {α : Type} {xs : List α} (h : xs.length = 6) : ∃ x0 x1 x2 x3 x4 x5, xs = [x0, x1, x2, x3, x4, x5] := by
  match xs, h with
  | [x0, x1, x2, x3, x4, x5], _ => exact ⟨x0, x1, x2, x3, x4, x5, rfl⟩

section
variable {H : Type} {enc : TypeId × Value → H} {w : World} {base b0 : Nat} {spare : Nat → Bool} {held : Bool} {r : Reach} {v : Value} {d : DataW H} {p : List MemPlace}

theorem open_state (hv : Value.okWide Try.prog w r b0 24 v) (h : DataW.Trod enc Try.prog w base spare held 24 v d p) :
    ∃ c a0 a1 a2 a3 a4 a5 : Int, v = .agg #[.int .i64 c, .int .i64 a0, .int .i64 a1, .int .i64 a2, .int .i64 a3, .int .i64 a4, .int .i64 a5] := by
  obtain ⟨cs, rfl, hsz⟩ := okWide_struct Try.underlying24 hv
  rw [cells24] at hsz
  obtain ⟨c0, c1, c2, c3, c4, c5, c6, rfl⟩ := array7 hsz
  obtain ⟨fuel, hf⟩ := h
  obtain ⟨y0, y1, n, _, _, h0, h1⟩ := trod_struct2 Try.underlying24 hf
  obtain ⟨xs, m, _, _, _, hl, hel⟩ := DataW.trod_array Try.underlying22 h1
  obtain ⟨x0, x1, x2, x3, x4, x5, rfl⟩ := six_parts hl
  have e0 := hel 0 (by decide)
  have e1 := hel 1 (by decide)
  have e2 := hel 2 (by decide)
  have e3 := hel 3 (by decide)
  have e4 := hel 4 (by decide)
  have e5 := hel 5 (by decide)
  simp [Value.cells, cells3, cells22] at h0 e0 e1 e2 e3 e4 e5
  obtain ⟨i, u, _⟩ := DataW.trod_int Try.underlying3 h0
  obtain ⟨i0, u0, _⟩ := DataW.trod_int Try.underlying3 e0
  obtain ⟨i1, u1, _⟩ := DataW.trod_int Try.underlying3 e1
  obtain ⟨i2, u2, _⟩ := DataW.trod_int Try.underlying3 e2
  obtain ⟨i3, u3, _⟩ := DataW.trod_int Try.underlying3 e3
  obtain ⟨i4, u4, _⟩ := DataW.trod_int Try.underlying3 e4
  obtain ⟨i5, u5, _⟩ := DataW.trod_int Try.underlying3 e5
  simp at u u0 u1 u2 u3 u4 u5
  subst u u0 u1 u2 u3 u4 u5
  exact ⟨i, i0, i1, i2, i3, i4, i5, rfl⟩

theorem okWide_array {n : Nat} {e t : TypeId} {P : Program} (ht : P.underlying t = some (.array n e)) (h : Value.okWide P w r b0 t v) : ∃ cs, v = .agg cs ∧ cs.size = P.cellsOf t := by
  simp only [Value.okWide, ht] at h
  obtain ⟨cs, h1, h2, _⟩ := h
  exact ⟨cs, h1, h2⟩

theorem open_pair (hv : Value.okWide Try.prog w r b0 25 v) (h : DataW.Trod enc Try.prog w base spare held 25 v d p) :
    ∃ x y : Int, v = .agg #[.int .i64 x, .int .i64 y] := by
  obtain ⟨cs, rfl, hsz⟩ := okWide_array Try.underlying25 hv
  rw [cells25] at hsz
  obtain ⟨c0, c1, rfl⟩ := array2 hsz
  obtain ⟨fuel, hf⟩ := h
  obtain ⟨xs, m, _, _, _, hl, hel⟩ := DataW.trod_array Try.underlying25 hf
  obtain ⟨x0, x1, rfl⟩ : ∃ x0 x1, xs = [x0, x1] := by
    match xs, hl with
    | [x0, x1], _ => exact ⟨x0, x1, rfl⟩
  have e0 := hel 0 (by decide)
  have e1 := hel 1 (by decide)
  simp [Value.cells, cells3] at e0 e1
  obtain ⟨i0, u0, _⟩ := DataW.trod_int Try.underlying3 e0
  obtain ⟨i1, u1, _⟩ := DataW.trod_int Try.underlying3 e1
  simp at u0 u1
  subst u0 u1
  exact ⟨i0, i1, rfl⟩
end

end Go.Proofs.Ytnldfglgdchinaa
