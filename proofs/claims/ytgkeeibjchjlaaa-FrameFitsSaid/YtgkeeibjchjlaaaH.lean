/- All frames, and how many there are, as the document says. -/
import Derived.Test.YtgkeeibjchjlaaaG
namespace Go.Proofs.Ytgkeeibjchjlaaa
set_option linter.unusedSimpArgs false
set_option linter.unusedVariables false
open Go.RowKit

theorem info9 : (Try.prog.info? 9).map (fun i => (i.zero, i.size, i.bytes)) = some (some (.string { data := #[] }), 1, 16) := by kernel_rfl


theorem new_cell (W : World) (x : Value) (t : TypeId) (g : Nat) (h : W.heap.size = g) : (W.alloc (.cells #[x] t)).cell? ⟨g, 0, none⟩ = some x := by
  subst h
  simp


/-- Texts as cells. -/
def tC (l : List ByteArray) : List Value := l.map Value.string


theorem own_texts {w : World} {base : Nat} {v : Value} {l : List ByteArray} (h : w.ownsRow base 9 1 v l.length (tC l)) : ∃ a c, v = .slice a l.length c ∧ TextsAt w a l := by
  have h' := h
  obtain ⟨_, h | ⟨g, cap, cur, hv, _, hb, hn, hm, hs, ht⟩⟩ := h
  · obtain ⟨rfl, h0⟩ := h
    exact ⟨none, 0, by rw [h0], .inl (List.eq_nil_of_length_eq_zero h0)⟩
  · refine ⟨_, cap, hv, .inr ⟨g, 0, rfl, fun j hj => ?_⟩⟩
    rw [Nat.zero_add, World.ownsRow.cellAt (hv ▸ h') j (by omega)]
    simp [tC, hj]


theorem tC_append (a b : List ByteArray) : tC (a ++ b) = tC a ++ tC b := by simp [tC]


/-- All frames' texts, and what is wrong with the last one; the first word: how many rounds at most. -/
def allL : Nat → List UInt8 → List ByteArray × Int
  | 0, _ => ([], 0)
  | f + 1, L => if L = [] then ([], 0) else if getE (txt L) = 0 then (getS (txt L) :: (allL f (L.drop (getN (txt L)).toNat)).1, (allL f (L.drop (getN (txt L)).toNat)).2) else ([], getE (txt L))
def allOf (b : ByteArray) : List ByteArray × Int := allL b.size b.data.toList
def allE (b : ByteArray) : Int := (allOf b).2
def allT (b : ByteArray) : List ByteArray := if allE b = 0 then (allOf b).1 else []
def countN (b : ByteArray) : Nat := (allOf b).1.length

theorem allL_nil (f : Nat) : allL f [] = ([], 0) := by cases f <;> rfl
theorem allL_no {f : Nat} {L : List UInt8} (hL : ¬ L = []) (h : ¬ getE (txt L) = 0) (hf : L.length ≤ f) : allL f L = ([], getE (txt L)) := by
  cases f with
  | zero => exact absurd (List.eq_nil_of_length_eq_zero (by omega)) hL
  | succ f => unfold allL; rw [if_neg hL, if_neg h]
theorem get_yes {b : ByteArray} (h : getE b = 0) : 3 ≤ getN b ∧ getN b ≤ b.size ∧ getN b ≤ 130 := by
  have hb := head_bounds b
  have hn : getN b = 2 + headN b := if_pos h
  unfold getE at h
  split at h
  · simp at h
  · split at h
    · simp at h
    · split at h
      · simp at h
      · split at h
        · simp at h
        · omega
theorem allL_fuel : ∀ (f g : Nat) (L : List UInt8), L.length ≤ f → L.length ≤ g → allL f L = allL g L
  | 0, g, L, hf, hg => by
    have : L = [] := List.eq_nil_of_length_eq_zero (by omega)
    rw [this, allL_nil, allL_nil]
  | f + 1, 0, L, hf, hg => by
    have : L = [] := List.eq_nil_of_length_eq_zero (by omega)
    rw [this, allL_nil, allL_nil]
  | f + 1, g + 1, L, hf, hg => by
    unfold allL
    by_cases hL : L = []
    · rw [if_pos hL, if_pos hL]
    · rw [if_neg hL, if_neg hL]
      by_cases hE : getE (txt L) = 0
      · rw [if_pos hE, if_pos hE]
        have hn := get_yes hE
        rw [txt_size] at hn
        have hd : (L.drop (getN (txt L)).toNat).length ≤ f ∧ (L.drop (getN (txt L)).toNat).length ≤ g := by rw [List.length_drop]; omega
        rw [allL_fuel f g _ hd.1 hd.2]
      · rw [if_neg hE, if_neg hE]

/-- One frame more. -/
theorem allL_yes {L : List UInt8} (hL : ¬ L = []) (h : getE (txt L) = 0) : allL L.length L = (getS (txt L) :: (allL (L.drop (getN (txt L)).toNat).length (L.drop (getN (txt L)).toNat)).1, (allL (L.drop (getN (txt L)).toNat).length (L.drop (getN (txt L)).toNat)).2) := by
  have hn := get_yes h
  rw [txt_size] at hn
  obtain ⟨f, hf⟩ : ∃ f, L.length = f + 1 := ⟨L.length - 1, by omega⟩
  conv => lhs; rw [hf]; unfold allL
  rw [if_neg hL, if_pos h, allL_fuel f _ _ (by rw [List.length_drop]; omega) (Nat.le_refl _)]

theorem slice_txt (b : ByteArray) (p : Nat) (h : p ≤ b.size) : b.extract p b.size = txt (b.data.toList.drop p) := by
  have e := extract_txt b.data.toList p b.size
  rw [txt_data] at e
  rw [e, List.take_of_length_le (by rw [List.length_drop, size_list]; exact Nat.le_refl _)]

set_option maxRecDepth 100000 in
set_option maxHeartbeats 8000000 in
theorem rcount_any (w : World) (b : ByteArray) (hs : b.size ≤ 1000000) : Calls Try.prog 14 #[.string b] w fun e w' => e = .returned (.int .i64 (countN b)) ∧ Ext w w' := by
  go_enter Try.func14, Try.ntmps14
  go_wp2_with fail
  go_loopw [3, 4] (fun k p wr => ∃ (j q : Nat), k = .int .i64 j ∧ p = .int .i64 q ∧ j ≤ q ∧ q ≤ b.size ∧ countN b = j + (allL (b.data.toList.drop q).length (b.data.toList.drop q)).1.length ∧ Ext w wr) (fun _ p _ => b.size - (intOf p).toNat)
  case atStart => exact ⟨0, 0, rfl, rfl, by omega, by omega, by simp [countN, allOf, size_list], Ext.refl w⟩
  case round =>
    obtain ⟨j, q, rfl, rfl, hjq, hq, hf, hx⟩ := hrel
    by_cases hlt : q < b.size
    · have hlt2 : (q : Int) < b.size := by omega
      have hq0 : (0 : Int) ≤ q := by omega
      have hq1 : (q : Int) ≤ b.size := by omega
      have hsl := slice_txt b q hq
      have HSL := Lib.hid hsl
      have hLl : (b.data.toList.drop q).length = b.size - q := by rw [List.length_drop, size_list]
      have hLn : ¬ b.data.toList.drop q = [] := fun h => by rw [h] at hLl; simp at hLl; omega
      obtain ⟨R, hR⟩ : ∃ R : ByteArray, R = txt (b.data.toList.drop q) := ⟨_, rfl⟩
      have hRs : R.size = b.size - q := by rw [hR, txt_size, hLl]
      have hRs1 : R.size ≤ 1000000 := by omega
      have HR := Lib.hid hR
      by_cases hE : getE R = 0
      · have hn := get_yes hE
        obtain ⟨n, hnn⟩ : ∃ n : Nat, getN R = n := ⟨(getN R).toNat, by omega⟩
        have HN := Lib.hid (show countN b = (j + 1 : Nat) + (allL (b.data.toList.drop (q + n)).length (b.data.toList.drop (q + n))).1.length by
          rw [hf, allL_yes hLn (by rw [← hR]; exact hE), ← hR, hnn]
          simp only [Int.toNat_natCast, List.drop_drop, List.length_cons]
          omega)
        have HE := Lib.hid hE
        have HNN := Lib.hid hnn
        rw [hnn] at hn
        obtain ⟨hn3, hn4, hn5⟩ := hn
        have hmx : ¬ (n : Int) < 1 := by omega
        have hmx2 : ¬ (1 : Int) > n := by omega
        have hmx3 : (1 : Int) < n := by omega
        clear hf hE hnn hR hsl hLn hLl
        go_wp2_with fail
        try simp only [Int.toNat_natCast]
        rw [HSL.out, ← HR.out]
        refine (rget_any _ R hRs1).mono ?_
        rintro e w1 ⟨rfl, x1⟩
        rw [HE.out, HNN.out]
        have hx := hx.trans x1
        clear x1
        generalize getS R = sx at *
        go_wp2_with fail
        exact ⟨⟨j + 1, q + n, rfl, by simp, by omega, by omega, HN.out, hx⟩, by simp [intOf]; omega⟩
      · have HN := Lib.hid (show countN b = j by rw [hf, allL_no hLn (by rw [← hR]; exact hE) (Nat.le_refl _)]; rfl)
        have hne : (getE R != 0) = true := by simpa using hE
        clear hf hE hR hsl hLn hLl
        go_wp2_with fail
        try simp only [Int.toNat_natCast]
        rw [HSL.out, ← HR.out]
        refine (rget_any _ R hRs1).mono ?_
        rintro e w1 ⟨rfl, x1⟩
        have hx := hx.trans x1
        clear x1
        go_wp2_with fail
        go_ret
        exact ⟨by rw [HN.out]; rfl, hx⟩
    · have hlt2 : ¬ (q : Int) < b.size := by omega
      have HN := Lib.hid (show countN b = j by
        rw [hf, List.drop_eq_nil_of_le (by rw [size_list]; omega), allL_nil]
        rfl)
      clear hf
      go_wp2_with fail
      go_ret
      exact ⟨by rw [HN.out]; rfl, hx⟩


end Go.Proofs.Ytgkeeibjchjlaaa
