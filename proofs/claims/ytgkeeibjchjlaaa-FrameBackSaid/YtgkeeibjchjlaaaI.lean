/- All frames' texts, as the document says. -/
import Derived.Test.YtgkeeibjchjlaaaH
namespace Go.Proofs.Ytgkeeibjchjlaaa
set_option linter.unusedSimpArgs false
set_option linter.unusedVariables false
open Go.RowKit

/-- The texts that came first. -/
theorem tC_length (l : List ByteArray) : (tC l).length = l.length := by simp [tC]

theorem allT_yes {b : ByteArray} (h : allE b = 0) : allT b = (allOf b).1 := if_pos h
theorem allT_no {b : ByteArray} (h : ¬ allE b = 0) : allT b = [] := if_neg h
theorem allOf_len (b : ByteArray) (hs : b.size ≤ 1000000) : (allOf b).1.length ≤ b.size := by
  have : ∀ (f : Nat) (L : List UInt8), (allL f L).1.length ≤ f := by
    intro f
    induction f with
    | zero => intro L; simp [allL]
    | succ f ih =>
      intro L
      unfold allL
      split
      · simp
      · split
        · simp; exact ih _
        · simp
  exact this _ _

set_option maxRecDepth 100000 in
set_option maxHeartbeats 8000000 in
theorem rall_any (w : World) (b : ByteArray) (hs : b.size ≤ 1000000) : Calls Try.prog 11 #[.string b] w fun e w' =>
    ∃ a c, e = .returned (.tuple #[.slice a (allT b).length c, .int .i64 (allE b)]) ∧ TextsAt w' a (allT b) ∧ Ext w w' := by
  obtain ⟨i0, hi, hz0, hz1, hz2⟩ := info_parts info9
  go_enter Try.func11, Try.ntmps11
  go_wp2_with fail
  have hg0 : w.heap.size ≤ w.heap.size := Nat.le_refl _
  go_loopw [4, 5] (fun o p wr => ∃ (q : Nat) (l : List ByteArray), p = .int .i64 q ∧ q ≤ b.size ∧ l.length ≤ q ∧ (allOf b).1 = l ++ (allL (b.data.toList.drop q).length (b.data.toList.drop q)).1 ∧ allE b = (allL (b.data.toList.drop q).length (b.data.toList.drop q)).2 ∧ wr.ownsRow w.heap.size 9 1 o l.length (tC l) ∧ Ext w wr) (fun _ p _ => b.size - (intOf p).toNat)
  case atStart => exact ⟨0, [], rfl, by omega, by simp, by simp [allOf, size_list], by simp [allE, allOf, size_list], World.ownsRow_nil _ _ _ _, Ext.refl w⟩
  case round =>
    obtain ⟨q, l, rfl, hq, hlq, hf, hfe, hown, hx⟩ := hrel
    by_cases hlt : q < b.size
    · have hlt2 : (q : Int) < b.size := by omega
      have hq0 : (0 : Int) ≤ q := by omega
      have hq1 : (q : Int) ≤ b.size := by omega
      have hsl := slice_txt b q hq
      have HSL := Lib.hid hsl
      have hLl : (b.data.toList.drop q).length = b.size - q := by rw [List.length_drop, size_list]
      have hLn : ¬ b.data.toList.drop q = [] := fun h => by rw [h] at hLl; simp at hLl; omega
      obtain ⟨R, hR⟩ : ∃ R : ByteArray, R = txt (b.data.toList.drop q) := ⟨_, rfl⟩
      have hRs : R.size = b.size - q := by rw [hR, txt_size, hLl]
      have hRs1 : R.size ≤ 1000000 := by omega
      have HR := Lib.hid hR
      obtain ⟨av, cv, rfl, hat⟩ := own_texts hown
      clear hat
      by_cases hE : getE R = 0
      · have hn := get_yes hE
        obtain ⟨n, hnn⟩ : ∃ n : Nat, getN R = n := ⟨(getN R).toNat, by omega⟩
        have HN := Lib.hid (show (allOf b).1 = (l ++ [getS R]) ++ (allL (b.data.toList.drop (q + n)).length (b.data.toList.drop (q + n))).1 ∧ allE b = (allL (b.data.toList.drop (q + n)).length (b.data.toList.drop (q + n))).2 by
          rw [hf, hfe, allL_yes hLn (by rw [← hR]; exact hE), ← hR, hnn]
          simp only [Int.toNat_natCast, List.drop_drop, List.append_assoc, List.singleton_append, and_self])
        have HE := Lib.hid hE
        have HNN := Lib.hid hnn
        rw [hnn] at hn
        obtain ⟨hn3, hn4, hn5⟩ := hn
        have hmx : ¬ (n : Int) < 1 := by omega
        have hmx2 : ¬ (1 : Int) > n := by omega
        have hmx3 : (1 : Int) < n := by omega
        clear hf hfe hE hnn hR hsl hLn hLl
        go_wp2_with fail
        try simp only [Int.toNat_natCast]
        rw [HSL.out, ← HR.out]
        refine (rget_any _ R hRs1).mono ?_
        rintro e w1 ⟨rfl, x1⟩
        rw [HE.out, HNN.out]
        have hown := hown.kept (x1.gr none) (Decidable.em _)
        have hx := hx.trans x1
        clear x1
        generalize getS R = sx at *
        go_wp2_with (at_builtin; refine wpList_append_own _ rfl _ _ 28 rfl w.heap.size 9 i0 (.string { data := #[] }) 1 16 Try.underlying28 hi hz0 hz1 hz2 rfl (by decide) _ _ _ rfl (hown.alloc _) ⟨w1.heap.size, 0, none⟩ 1 1 [.string sx] rfl rfl ?c1 ?c2 ?c3 ?c4 ?c5 ?_)
        case c1 =>
          intro q u hq
          match q, hq with
          | 0, hq => simp at hq; subst hq; exact new_cell _ _ _ _ rfl
        case c2 => intro u hu; simp at hu; subst hu; rfl
        case c3 => unfold maxLen; omega
        case c4 => omega
        case c5 => have := hx.size; simp; omega
        intro v' w5 hown5 hgrow _
        have x5 : Ext w w5 := Below.grown (hx.al _) hgrow (by have := hx.size; simp; omega) (fun k hk => (hown.lt k hk).1)
        have hown6 : w5.ownsRow w.heap.size 9 1 v' (l ++ [sx]).length (tC (l ++ [sx])) := by
          rw [List.length_append, tC_append]
          exact hown5
        clear hown5 hgrow
        go_wp2_with fail
        exact ⟨⟨q + n, l ++ [sx], by simp, by omega, by simp; omega, HN.out.1, HN.out.2, hown6, x5⟩, by simp [intOf]; omega⟩
      · have HN := Lib.hid (show allE b = getE R ∧ ¬ allE b = 0 by
          have e : allE b = getE R := by rw [hfe, allL_no hLn (by rw [← hR]; exact hE) (Nat.le_refl _), hR]
          exact ⟨e, by rw [e]; exact hE⟩)
        have hne : (getE R != 0) = true := by simpa using hE
        clear hf hfe hE hR hsl hLn hLl
        go_wp2_with fail
        try simp only [Int.toNat_natCast]
        rw [HSL.out, ← HR.out]
        refine (rget_any _ R hRs1).mono ?_
        rintro e w1 ⟨rfl, x1⟩
        have hx := hx.trans x1
        clear x1
        go_wp2_with fail
        refine bodyPost_ret (v := .tuple #[.slice none 0 0, .int .i64 (getE R)]) (by simp [results, Try.results11, go_sem]) rfl ⟨none, 0, by rw [allT_no HN.out.2, HN.out.1]; rfl, .inl (allT_no HN.out.2), hx⟩
    · have hlt2 : ¬ (q : Int) < b.size := by omega
      obtain ⟨av, cv, rfl, hat⟩ := own_texts hown
      have HA := Lib.hid hat
      have HN := Lib.hid (show allE b = 0 ∧ allT b = l by
        rw [List.drop_eq_nil_of_le (by rw [size_list]; omega), allL_nil] at hf hfe
        exact ⟨hfe, by rw [allT_yes hfe, hf]; simp⟩)
      clear hf hfe hat hown
      go_wp2_with fail
      refine bodyPost_ret (v := .tuple #[.slice av l.length cv, .int .i64 0]) (by simp [results, Try.results11, go_sem]) rfl ⟨av, ⟨cv, by rw [HN.out.2, HN.out.1]⟩, by rw [HN.out.2]; exact HA.out, hx⟩

end Go.Proofs.Ytgkeeibjchjlaaa
