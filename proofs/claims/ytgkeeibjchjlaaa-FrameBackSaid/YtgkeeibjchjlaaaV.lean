/- A slice of texts, opened to cells. -/
import Derived.Test.YtgkeeibjchjlaaaB
import Derived.Test.YtgkeeibjchjlaaaU
import Derived.SliceStrings
namespace Go.Proofs.Ytgkeeibjchjlaaa
set_option linter.unusedSimpArgs false
set_option linter.unusedVariables false
open Go.ChangeShapes Go.WideShapes Go.ChangeAt Go.RowKit Go.Deep Go.Joins
open Go.ChangeMaps (open_string shut_string)

theorem cells9 : Try.prog.cellsOf 9 = 1 := by kernel_rfl

theorem add_spot {w : World} {a : Addr} {n : Nat} {v : Value} (h : w.cell? (a.add n) = some v) (h0 : w.cell? (a.add 0) ≠ none) : a.spot = none := by
  obtain ⟨g, o, sp⟩ := a
  cases sp with
  | none => rfl
  | some q =>
    exact absurd (by simp only [World.cell?, Addr.add, if_pos]; split <;> simp) h0

theorem open_texts {H : Type} {enc : TypeId × Value → H} {W : World} {a : Option Addr} {len cap : Nat} {d : DataW H} {p : List MemPlace}
    (h : DataW.Trod enc Try.prog W 0 (fun _ => true) true 28 (.slice a len cap) d p) : ∃ l : List ByteArray, l.length = len ∧ TextsAt W a l := by
  obtain ⟨fuel, hf⟩ := h
  rcases open_strings Try.underlying28 Try.underlying9 cells9 hf with ⟨hcs, _⟩ | ⟨x, n, c, ss, hcs, _, hl, hm, hmm, hx, hi, _⟩
  · simp [Value.cells] at hcs
    obtain ⟨rfl, rfl, rfl⟩ := hcs
    exact ⟨[], rfl, .inl rfl⟩
  · simp [Value.cells] at hcs
    obtain ⟨rfl, rfl, rfl⟩ := hcs
    simp at hmm
    refine ⟨ss.take len, by simp; omega, ?_⟩
    cases len with
    | zero => exact .inl (by simp)
    | succ len =>
      have hc0 := hi 0 (by omega)
      have hsp : x.spot = none := add_spot hc0 (by rw [hc0]; simp)
      obtain ⟨g, o, sp⟩ := x
      simp at hsp
      subst hsp
      refine .inr ⟨g, o, rfl, fun j hj => ?_⟩
      have hj' : j < len + 1 := by simp at hj; omega
      have := hi j (by omega)
      rw [add_eq] at this
      rw [this, List.getElem_take, List.getD_eq_getElem?_getD, List.getElem?_eq_getElem (by omega)]
      rfl

end Go.Proofs.Ytgkeeibjchjlaaa
