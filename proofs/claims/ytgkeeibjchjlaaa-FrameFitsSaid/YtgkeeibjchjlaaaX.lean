/- A slice of bytes, opened to cells. -/
import Derived.Test.YtgkeeibjchjlaaaS
import Derived.Test.YtgkeeibjchjlaaaV
import Derived.ChangeSlices
namespace Go.Proofs.Ytgkeeibjchjlaaa
set_option linter.unusedSimpArgs false
set_option linter.unusedVariables false
open Go.ChangeShapes Go.WideShapes Go.ChangeAt Go.RowKit Go.Deep Go.Joins
open Go.ChangeMaps (open_string shut_string)

theorem cells5 : Try.prog.cellsOf 5 = 1 := by kernel_rfl

theorem open_u8 {H : Type} {enc : TypeId × Value → H} {W : World} {a : Option Addr} {len cap : Nat} {d : DataW H} {p : List MemPlace}
    (h : DataW.Trod enc Try.prog W 0 (fun _ => true) true 45 (.slice a len cap) d p) : ∃ l : List Int, l.length = len ∧ U8At W a l ∧ ∀ x ∈ l, 0 ≤ x ∧ x ≤ 255 := by
  obtain ⟨fuel, hf⟩ := h
  rcases open_ints Try.underlying45 Try.underlying5 cells5 hf with ⟨hcs, _⟩ | ⟨x, n, c, zs, hcs, _, hl, hm, hmm, hx, hi, hwf⟩
  · simp [Value.cells] at hcs
    obtain ⟨rfl, rfl, rfl⟩ := hcs
    exact ⟨[], rfl, .inl rfl, by simp⟩
  · simp [Value.cells] at hcs
    obtain ⟨rfl, rfl, rfl⟩ := hcs
    simp at hmm
    refine ⟨zs.take len, by simp; omega, ?_, fun x hx => by have := bounds_u8 (hwf x (List.mem_of_mem_take hx)); omega⟩
    cases len with
    | zero => exact .inl (by simp)
    | succ len =>
      have hc0 := hi 0 (by omega)
      have hsp : x.spot = none := add_spot hc0 (by rw [hc0]; simp)
      obtain ⟨g, o, sp⟩ := x
      simp at hsp
      subst hsp
      refine .inr ⟨g, o, rfl, fun j hj => ?_⟩
      have hj' : j < len + 1 := by simp at hj; omega
      have := hi j (by omega)
      rw [add_eq] at this
      rw [this, List.getElem_take, List.getD_eq_getElem?_getD, List.getElem?_eq_getElem (by omega)]
      rfl

end Go.Proofs.Ytgkeeibjchjlaaa
