/- The walk of Back. -/
import Derived.Test.YtgkeeibjchjlaaaN
import Derived.Test.YtgkeeibjchjlaaaLaw
namespace Go.Proofs.Ytgkeeibjchjlaaa
set_option linter.unusedSimpArgs false
set_option linter.unusedVariables false
open Go.RowKit

/-- The texts that have a frame. -/
def goodT (l : List ByteArray) : List ByteArray := l.filter (fun s => putE s == 0)
theorem goodT_all (l : List ByteArray) : ∀ s ∈ goodT l, putE s = 0 := fun s h => by simpa using (List.mem_filter.1 h).2
theorem goodT_len (l : List ByteArray) : (goodT l).length ≤ l.length := List.length_filter_le _ _
theorem goodT_yes (l : List ByteArray) (j : Nat) (h : j < l.length) (hp : putE l[j] = 0) : goodT (l.take (j + 1)) = goodT (l.take j) ++ [l[j]] := by
  unfold goodT; rw [List.take_succ_eq_append_getElem h, List.filter_append]; simp [hp]
theorem goodT_no (l : List ByteArray) (j : Nat) (h : j < l.length) (hp : ¬ putE l[j] = 0) : goodT (l.take (j + 1)) = goodT (l.take j) := by
  unfold goodT; rw [List.take_succ_eq_append_getElem h, List.filter_append]; simp [hp]
theorem good_small {s : ByteArray} (h : putE s = 0) : s.size ≤ 128 := by have := (put_list h).2.1; omega
theorem sumI_le (l : List ByteArray) (hl : ∀ s ∈ l, putE s = 0) : sumI l ≤ 130 * l.length := by
  induction l with
  | nil => simp [sumI]
  | cons s r ih =>
    have := ih (fun x hx => hl x (by simp [hx]))
    have h2 := (put_len2 (hl s (by simp))).2
    have h3 := good_small (hl s (by simp))
    simp only [sumI, List.length_cons]
    omega
theorem all_good : ∀ (f : Nat) (L : List UInt8), ∀ s ∈ (allL f L).1, putE s = 0
  | 0, L, s, h => by simp [allL] at h
  | f + 1, L, s, h => by
    unfold allL at h
    split at h
    · simp at h
    · split at h
      · rename_i hE
        rcases List.mem_cons.1 h with h | h
        · rw [h]; exact (put_get hE).1
        · exact all_good f _ s h
      · simp at h
theorem allT_good (b : ByteArray) : ∀ s ∈ allT b, putE s = 0 := fun s h => by
  by_cases hE : allE b = 0
  · rw [allT_yes hE] at h; exact all_good _ _ s h
  · rw [allT_no hE] at h; simp at h
theorem allT_len (b : ByteArray) (hs : b.size ≤ 1000000) : (allT b).length ≤ 1000000 := by
  by_cases h : allE b = 0
  · rw [allT_yes h]; have := allOf_len b hs; omega
  · rw [allT_no h]; simp

set_option maxRecDepth 100000 in
set_option maxHeartbeats 20000000 in
theorem back_walk (w : World) (a : Option Addr) (c : Nat) (l : List ByteArray) (b : ByteArray) (hA : Hid (TextsAt w a l)) (hb0 : b.size ≤ 9223372036854775807) :
    Calls Try.prog 5 #[.slice a l.length c, .string b] w fun e w' => e = .returned (.bool true) ∧ Ext w w' := by
  obtain ⟨i0, hi, hz0, hz1, hz2⟩ := info_parts info9
  by_cases hl : 20 < l.length
  · have h1 : (20 : Int) < l.length := by omega
    go_enter Try.func5, Try.ntmps5
    go_wp2_with fail
    refine (awake_any _).mono ?_
    rintro e w1 ⟨rfl, x0⟩
    go_wp2_with fail
    go_ret
    exact ⟨rfl, x0⟩
  have h1 : ¬ (20 : Int) < l.length := by omega
  have hl1 : l.length ≤ 20 := by omega
  by_cases hb : 400 < b.size
  · have h2 : (400 : Int) < b.size := by omega
    go_enter Try.func5, Try.ntmps5
    go_wp2_with fail
    refine (awake_any _).mono ?_
    rintro e w1 ⟨rfl, x0⟩
    go_wp2_with fail
    go_ret
    exact ⟨rfl, x0⟩
  have h2 : ¬ (400 : Int) < b.size := by omega
  have hs : b.size ≤ 1000000 := by omega
  go_enter Try.func5, Try.ntmps5
  go_wp2_with fail
  go_loopw [5, 6, 7] (fun f z i wr => ∃ j : Nat, i = .int .i64 j ∧ z = .int .i64 (sumI (goodT (l.take j))) ∧ j ≤ l.length ∧ wr.ownsRow w.heap.size 9 1 f (goodT (l.take j)).length (tC (goodT (l.take j))) ∧ Ext w wr) (fun _ _ i _ => l.length - (intOf i).toNat)
  case atStart => exact ⟨0, rfl, by simp [goodT, sumI], by omega, World.ownsRow_nil _ _ _ _, Ext.refl w⟩
  case round =>
    obtain ⟨j, rfl, rfl, hj, hown, hx⟩ := hrel
    obtain ⟨av, cv, rfl, hat⟩ := own_texts hown
    by_cases hlt : j < l.length
    · clear hat
      have hlt2 : (j : Int) < l.length := by omega
      obtain ⟨o1, o2, rfl, hcw⟩ := hA.out.get hlt
      have hy := goodT_yes l j hlt
      have hn := goodT_no l j hlt
      have hgl := goodT_len (l.take j)
      rw [List.length_take] at hgl
      have hgl2 : (goodT (l.take j)).length ≤ 20 := by omega
      have hsum := sumI_le _ (goodT_all (l.take j))
      have hnn := sumI_nn (goodT (l.take j))
      obtain ⟨S, hS⟩ : ∃ S, S = sumI (goodT (l.take j)) := ⟨_, rfl⟩
      rw [← hS] at hsum hnn
      rw [← hS]
      have n1 : S ≤ 2600 := by omega
      clear hgl hsum
      generalize l[j] = s at *
      have HYN := Lib.hid (And.intro hy hn)
      have HS := Lib.hid hS
      clear hy hn hS
      have HO := Lib.hid hown
      have hc := hx.cell_some hcw
      clear hown
      by_cases hb : 200 < s.size
      · have hb2 : (200 : Int) < s.size := by omega
        clear HYN HO
        go_wp2_with fail
        refine (awake_any _).mono ?_
        rintro e w1 ⟨rfl, x1⟩
        go_wp2_with fail
        go_ret
        exact ⟨rfl, hx.trans x1⟩
      · have hb2 : ¬ (200 : Int) < s.size := by omega
        have hsz : s.size ≤ 1000000 := by omega
        by_cases hp : putE s = 0
        · have hz := size_pos.2 hp
          have hz2 := (put_len2 hp).2
          have HY := Lib.hid (HYN.out.1 hp)
          obtain ⟨z, hzz⟩ : ∃ z, z = sizeI s := ⟨_, rfl⟩
          have HZZ := Lib.hid hzz
          rw [← hzz] at hz
          have hz3 : z ≤ 202 := by rw [hzz, hz2]; omega
          have hw : IntKind.i64.wrap (S + z) = S + z := IntWalk.i64_in _ (by omega)
          clear hzz hz2 HYN hp
          go_wp2_with fail
          refine (size_any _ s hsz).mono ?_
          rintro e w1 ⟨rfl, hw1⟩
          subst hw1
          rw [← HZZ.out]
          go_wp2_with (at_builtin; refine wpList_append_own _ rfl _ _ 28 rfl w.heap.size 9 i0 (.string { data := #[] }) 1 16 Try.underlying28 hi hz0 hz1 hz2 rfl (by decide) _ _ _ rfl (HO.out.alloc _) ⟨_, 0, none⟩ 1 1 [.string s] rfl rfl ?c1 ?c2 ?c3 ?c4 ?c5 ?_)
          case c1 =>
            intro q u hq
            match q, hq with
            | 0, hq => simp at hq; subst hq; exact new_cell _ _ _ _ rfl
          case c2 => intro u hu; simp at hu; subst hu; rfl
          case c3 => unfold maxLen; omega
          case c4 => omega
          case c5 => have := hx.size; simp; omega
          intro v' w5 hown5 hgrow _
          have x5 : Ext w w5 := Below.grown (hx.al _) hgrow (by have := hx.size; simp; omega) (fun k hk => (HO.out.lt k hk).1)
          have hown6 : w5.ownsRow w.heap.size 9 1 v' (goodT (l.take (j + 1))).length (tC (goodT (l.take (j + 1)))) := by
            rw [HY.out, List.length_append, tC_append]
            exact hown5
          have HO := Lib.hid hown6
          have hc := x5.cell_some hcw
          clear hown5 hgrow hown6
          go_wp2_with fail
          refine (size_any _ s hsz).mono ?_
          rintro e w6 ⟨rfl, hw1⟩
          subst hw1
          rw [← HZZ.out]
          go_wp2_with fail
          refine ⟨⟨j + 1, rfl, ?_, by omega, HO.out, x5⟩, by simp [intOf]; omega⟩
          rw [HY.out, sumI_append, HS.out, HZZ.out]
          simp [sumI]
        · have hz : ¬ 0 < sizeI s := fun h => hp (size_pos.1 h)
          have HY := Lib.hid (HYN.out.2 hp)
          obtain ⟨z, hzz⟩ : ∃ z, z = sizeI s := ⟨_, rfl⟩
          have HZZ := Lib.hid hzz
          rw [← hzz] at hz
          clear hzz HYN hp
          go_wp2_with fail
          refine (size_any _ s hsz).mono ?_
          rintro e w1 ⟨rfl, hw1⟩
          subst hw1
          rw [← HZZ.out]
          go_wp2_with fail
          exact ⟨⟨j + 1, rfl, by rw [HY.out, HS.out], by omega, by rw [HY.out]; exact HO.out, hx⟩, by simp [intOf]; omega⟩
    · have hlt2 : ¬ (j : Int) < l.length := by omega
      have hjl : l.length ≤ j := by omega
      rw [List.take_of_length_le hjl] at hat ⊢
      have hF := goodT_all l
      have hFl := goodT_len l
      have hSl := sumI_le _ hF
      have hSn := sumI_nn (goodT l)
      clear hown hjl
      generalize goodT l = F at *
      have hFl1 : F.length ≤ 20 := by omega
      obtain ⟨e1, e2, e3, e4⟩ := back_joined F hF
      have e5 := joinS_size F hF
      have T0 := Lib.hid hat
      have HF2 := Lib.hid (show ∀ s ∈ F, s.size ≤ 1000000 from fun s h => by have := good_small (hF s h); omega)
      obtain ⟨X, hXX⟩ : ∃ X, X = joinS F := ⟨_, rfl⟩
      rw [← hXX] at e2 e3 e4 e5
      have HXX := Lib.hid hXX
      clear hXX
      generalize sumI F = S at *
      have hX : X.size ≤ 1000000 := by omega
      have E1 := Lib.hid e1
      have E2 := Lib.hid (And.intro e2 (And.intro e3 e4))
      have e5b : ((X.size : Int) == S) = true := by simpa using e5
      clear e1 e2 e3 e4 e5 hF hat
      have HG2 := Lib.hid (show ∀ s ∈ allT b, s.size ≤ 1000000 from fun s h => by have := good_small (allT_good b s h); omega)
      have hGl := allT_len b hs
      by_cases hE : allE b = 0
      case' pos =>
        have HJ := Lib.hid (And.intro hE (back_told b hE))
        have HJ := Lib.hid (show allE b = 0 ∧ joinE (allT b) = 0 ∧ joinS (allT b) = b from HJ.out)
        clear hE
      case' neg =>
        have hne : (allE b != 0) = true := by simpa using hE
        clear hE
      all_goals
        go_wp2_with fail
        refine (join_any _ av cv F (Lib.hid T0.out) HF2.out (by omega)).mono ?_
        rintro e w1 ⟨rfl, x1⟩
        have T0 := Lib.hid (T0.out.ext x1)
        have hx := hx.trans x1
        rw [E1.out, ← HXX.out]
        clear x1
        go_wp2_with fail
        refine (all_any _ X hX).mono ?_
        rintro e w2 ⟨a2, c2, rfl, t2, x1⟩
        rw [E2.out.1, E2.out.2.1]
        rw [E2.out.2.1] at t2
        have T2 := Lib.hid t2
        have T0 := Lib.hid (T0.out.ext x1)
        have hx := hx.trans x1
        clear x1 t2
        go_wp2_with fail
        refine (all_any _ b hs).mono ?_
        rintro e w3 ⟨a3, c3, rfl, t3, x1⟩
        have T3 := Lib.hid t3
        have T2 := Lib.hid (T2.out.ext x1)
        have T0 := Lib.hid (T0.out.ext x1)
        have hx := hx.trans x1
        clear x1 t3
        go_wp2_with fail
        refine (join_any _ a3 c3 (allT b) T3 HG2.out hGl).mono ?_
        rintro e w4 ⟨rfl, x1⟩
        have T2 := Lib.hid (T2.out.ext x1)
        have T0 := Lib.hid (T0.out.ext x1)
        have hx := hx.trans x1
        clear x1 T3
        generalize (allT b).length = n3 at *
        try rw [HJ.out.1, HJ.out.2.1, HJ.out.2.2]
        go_wp2_with fail
        refine (same_any _ a2 av c2 cv F T2 T0 (by omega)).mono ?_
        rintro e w5 ⟨rfl, x1⟩
        have hx := hx.trans x1
        clear x1 T2 T0
        go_wp2_with fail
        refine (count_any _ X hX).mono ?_
        rintro e w6 ⟨rfl, x1⟩
        rw [E2.out.2.2]
        have hx := hx.trans x1
        clear x1
        go_wp2_with fail
        refine (awake_any _).mono ?_
        rintro e w7 ⟨rfl, x1⟩
        have hx := hx.trans x1
        clear x1
        go_wp2_with fail
        go_ret
        exact ⟨rfl, hx⟩

end Go.Proofs.Ytgkeeibjchjlaaa
