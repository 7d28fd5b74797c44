/- The walk of Fits. -/
import Derived.Test.YtgkeeibjchjlaaaQ
namespace Go.Proofs.Ytgkeeibjchjlaaa
set_option linter.unusedSimpArgs false
set_option linter.unusedVariables false
open Go.RowKit

/-- The cells of a slice of bytes. -/
def U8At (w : World) (a : Option Addr) (l : List Int) : Prop := l = [] ∨ ∃ g o, a = some ⟨g, o, none⟩ ∧ ∀ j (h : j < l.length), w.cell? ⟨g, o + j, none⟩ = some (.int .u8 l[j])
theorem U8At.ext {w w' : World} {a : Option Addr} {l : List Int} (h : U8At w a l) (x : Ext w w') : U8At w' a l := by
  rcases h with h | ⟨g, o, ha, hc⟩
  · exact .inl h
  · exact .inr ⟨g, o, ha, fun j hj => x.cell_some (hc j hj)⟩
theorem U8At.get {w : World} {a : Option Addr} {l : List Int} (h : U8At w a l) {j : Nat} (hj : j < l.length) : ∃ g o, a = some ⟨g, o, none⟩ ∧ w.cell? ⟨g, o + j, none⟩ = some (.int .u8 l[j]) := by
  rcases h with h | ⟨g, o, ha, hc⟩
  · subst h; simp at hj
  · exact ⟨g, o, ha, hc j hj⟩

/-- Zeros; so many of them. -/
def Zt : ByteArray := txt (List.replicate 128 0)
theorem Zt_size : Zt.size = 128 := by unfold Zt; rw [txt_size, List.length_replicate]
def zT (x : Int) : ByteArray := Zt.extract 0 (1 + x % 128).toNat
theorem zT_good (x : Int) : putE (zT x) = 0 := by
  have : (zT x).size = (1 + x % 128).toNat := by
    unfold zT
    rw [ByteArray.size_extract, Zt_size]
    omega
  unfold putE
  rw [this, if_neg (by omega), if_neg (by omega)]
theorem zTs_good (l : List Int) : ∀ s ∈ l.map zT, putE s = 0 := fun s h => by
  obtain ⟨x, _, rfl⟩ := List.mem_map.1 h
  exact zT_good x

theorem own_cap {w : World} {base : Nat} {v : Value} {l : List ByteArray} (h : w.ownsRow base 9 1 v l.length (tC l)) :
    (v = .slice none 0 0 ∧ l = []) ∨ ∃ g c, v = .slice (some ⟨g, 0, none⟩) l.length c ∧ l.length ≤ c ∧ c ≤ maxLen ∧ TextsAt w (some ⟨g, 0, none⟩) l := by
  obtain ⟨a, c, hv, hT⟩ := own_texts h
  obtain ⟨_, h | ⟨g, cap, cur, hv2, _, hb, hn, hm, hs, ht⟩⟩ := h
  · exact .inl ⟨h.1, List.eq_nil_of_length_eq_zero h.2⟩
  · right
    rw [hv] at hv2
    obtain ⟨rfl, _, rfl⟩ := hv2
    exact ⟨g, _, hv, by omega, hm, hT⟩

theorem TextsAt.take {w : World} {a : Option Addr} {l : List ByteArray} (h : TextsAt w a l) (k : Nat) : TextsAt w a (l.take k) := by
  rcases h with h | ⟨g, o, ha, hc⟩
  · exact .inl (by rw [h]; simp)
  · exact .inr ⟨g, o, ha, fun j hj => by rw [hc j (by rw [List.length_take] at hj; omega), List.getElem_take]⟩

theorem zeros_at (w : World) : BytesAt (w.alloc (.cells (madeCells #[.int .u8 0] 128) 5)) (.slice (some ⟨w.heap.size, 0, none⟩) 128 128) (List.replicate 128 0) :=
  .inr ⟨w.heap.size, 128, by simp, fun j hj => by rw [made_cell w 128 j (by simpa using hj), List.getElem_replicate]; rfl⟩

set_option maxRecDepth 100000 in
set_option maxHeartbeats 20000000 in
theorem fits_walk (w : World) (a : Option Addr) (c : Nat) (l : List Int) (m : Int) (hA : Hid (U8At w a l)) (hu : ∀ x ∈ l, 0 ≤ x ∧ x ≤ 255) (hm0 : 0 ≤ m) (hm : m ≤ 65535) :
    Calls Try.prog 6 #[.slice a l.length c, .int .u16 m] w fun e w' => e = .returned (.bool true) ∧ Ext w w' := by
  obtain ⟨i0, hi, hz0, hz1, hz2⟩ := info_parts info9
  by_cases hl : 20 < l.length
  · have h1 : (20 : Int) < l.length := by omega
    go_enter Try.func6, Try.ntmps6
    go_wp2_with fail
    refine (awake_any _).mono ?_
    rintro e w1 ⟨rfl, x0⟩
    go_wp2_with fail
    go_ret
    exact ⟨rfl, x0⟩
  have h1 : ¬ (20 : Int) < l.length := by omega
  have hl1 : l.length ≤ 20 := by omega
  have hmk : ∀ w, (Instr.makeSlice 45 (.int .i64 128) (.int .i64 128)).run Try.prog w = .ok (.slice (some ⟨w.heap.size, 0, none⟩) 128 128) (w.alloc (.cells (madeCells #[.int .u8 0] 128) 5)) := fun w => make_bytes w 128 (by decide)
  have hz : ∀ w : World, (convert 45 9 (.slice (some ⟨w.heap.size, 0, none⟩) 128 128)).run Try.prog (w.alloc (.cells (madeCells #[.int .u8 0] 128) 5)) = .ok (.string Zt) (w.alloc (.cells (madeCells #[.int .u8 0] 128) 5)) := fun w => (zeros_at w).back
  have hzs := Zt_size
  go_enter Try.func6, Try.ntmps6
  go_wp2_with fail
  have hx0 : Ext w (w.alloc (Obj.cells (madeCells #[Value.int IntKind.u8 0] 128) 5)) := Ext.alloc _ _
  have HH := Lib.hid hzs
  clear hmk hz hzs
  obtain ⟨Z, hZ⟩ : ∃ Z, Z = Zt := ⟨_, rfl⟩
  rw [← hZ]
  have HZ := Lib.hid hZ
  have hZs : Z.size = 128 := by rw [hZ]; exact HH.out
  clear hZ
  have HZs := Lib.hid hZs
  clear hZs
  go_loopw [6, 7] (fun f i wr => ∃ j : Nat, i = .int .i64 j ∧ j ≤ l.length ∧ wr.ownsRow w.heap.size 9 1 f ((l.take j).map zT).length (tC ((l.take j).map zT)) ∧ Ext w wr) (fun _ i _ => l.length - (intOf i).toNat)
  case atStart => exact ⟨0, rfl, by omega, World.ownsRow_nil _ _ _ _, hx0⟩
  case round =>
    obtain ⟨j, rfl, hj, hown, hx⟩ := hrel
    by_cases hlt : j < l.length
    · obtain ⟨av, cv, rfl, hat⟩ := own_texts hown
      clear hat
      have hlt2 : (j : Int) < l.length := by omega
      obtain ⟨o1, o2, rfl, hcw⟩ := hA.out.get hlt
      have hux := hu l[j] (List.getElem_mem hlt)
      have hy : (l.take (j + 1)).map zT = (l.take j).map zT ++ [zT l[j]] := by rw [List.take_succ_eq_append_getElem hlt, List.map_append]; rfl
      generalize l[j] = x at *
      have HY := Lib.hid hy
      have HO := Lib.hid hown
      have hll : ((l.take j).map zT).length ≤ 20 := by rw [List.length_map, List.length_take]; omega
      clear hy hown
      generalize (l.take j).map zT = A at *
      have hc := hx.cell_some hcw
      obtain ⟨hu0, hu1⟩ := hux
      have hyl : 0 ≤ x % 128 ∧ x % 128 < 128 := by omega
      obtain ⟨hy0, hy1⟩ := hyl
      have hi1 : (0 : Int) ≤ 1 + x % 128 := by omega
      have hi2 : 1 + x % 128 ≤ Z.size := by rw [HZs.out]; omega
      go_wp2_with (at_builtin; refine wpList_append_own _ rfl _ _ 28 rfl w.heap.size 9 i0 (.string { data := #[] }) 1 16 Try.underlying28 hi hz0 hz1 hz2 rfl (by decide) _ _ _ rfl (HO.out.alloc _) ⟨wr.heap.size, 0, none⟩ 1 1 [.string (Z.extract 0 (1 + x % 128).toNat)] rfl rfl ?c1 ?c2 ?c3 ?c4 ?c5 ?_)
      case c1 =>
        intro q u hq
        match q, hq with
        | 0, hq => simp at hq; subst hq; exact new_cell _ _ _ _ rfl
      case c2 => intro u hu; simp at hu; subst hu; rfl
      case c3 => unfold maxLen; omega
      case c4 => omega
      case c5 => have := hx.size; simp; omega
      intro v' w5 hown5 hgrow _
      have x5 : Ext w w5 := Below.grown (hx.al _) hgrow (by have := hx.size; simp; omega) (fun k hk => (HO.out.lt k hk).1)
      have hown6 : w5.ownsRow w.heap.size 9 1 v' ((l.take (j + 1)).map zT).length (tC ((l.take (j + 1)).map zT)) := by
        rw [HY.out, List.length_append, tC_append]
        rw [HZ.out] at hown5
        exact hown5
      have HO := Lib.hid hown6
      clear hown5 hgrow hown6
      go_wp2_with fail
      exact ⟨⟨j + 1, rfl, by omega, HO.out, x5⟩, by simp [intOf]; omega⟩
    · have hlt2 : ¬ (j : Int) < l.length := by omega
      have hjl : l.length ≤ j := by omega
      rw [List.take_of_length_le hjl] at hown
      have hAl : (l.map zT).length = l.length := List.length_map ..
      have hAg := zTs_good l
      generalize l.map zT = A at *
      have HA := Lib.hid hAl
      have hA20 : A.length ≤ 20 := by omega
      have HG := Lib.hid hAg
      clear hjl hAl hAg hu
      rcases own_cap hown with ⟨rfl, hnil⟩ | ⟨g, cv, rfl, hcap, hcm, hT⟩
      · subst hnil
        clear hown
        have T0 : Hid (TextsAt wr none []) := Lib.hid (.inl rfl)
        go_wp2_with fail
        refine (fit_any _ none 0 [] m T0 (by simp) (by omega) (by simp)).mono ?_
        rintro e w1 ⟨rfl, x1⟩
        have hx := hx.trans x1
        clear x1
        rw [show fitR [] m = 0 from rfl]
        go_wp2_with fail
        refine (join_any _ none 0 [] (Lib.hid (.inl rfl)) (by simp) (by simp)).mono ?_
        rintro e w2 ⟨rfl, x1⟩
        have hx := hx.trans x1
        clear x1
        rw [show joinS [] = { data := #[] } from rfl, show joinE [] = 0 from rfl]
        go_wp2_with fail
        refine (fit_any _ none 0 [] 0 (Lib.hid (.inl rfl)) (by simp) (by omega) (by simp)).mono ?_
        rintro e w3 ⟨rfl, x1⟩
        have hx := hx.trans x1
        clear x1
        rw [show fitR [] 0 = 0 from rfl]
        go_wp2_with fail
        refine (awake_any _).mono ?_
        rintro e w4 ⟨rfl, x1⟩
        have hx := hx.trans x1
        clear x1
        go_wp2_with fail
        go_ret
        exact ⟨rfl, hx⟩
      · have hown := 0
        have T0 := Lib.hid hT
        clear hT hown
        have HS := Lib.hid (show ∀ s ∈ A, s.size ≤ 1000000 from fun s h => by have := good_small (HG.out s h); omega)
        go_wp2_with fail
        refine (fit_any _ (some ⟨g, 0, none⟩) cv A m T0 HS.out (by omega) (by omega)).mono ?_
        rintro e w1 ⟨rfl, x1⟩
        have hx := hx.trans x1
        have T0 := Lib.hid (T0.out.ext x1)
        clear x1
        have hk := fit_le A m
        have hsum := fit_sum A m hm0
        obtain ⟨k, hkk⟩ : ∃ k, k = fitR A m := ⟨_, rfl⟩
        rw [← hkk]
        have HK := Lib.hid hkk
        rw [← hkk] at hk hsum
        have HN := Lib.hid (show ∀ h : k < A.length, m < sumI (A.take k) + sizeI (A[k]'h) by rw [hkk]; exact fun h => fit_next A HG.out m h)
        have hex := fit_exact A HG.out k hk
        clear hkk
        have hE := (back_joined (A.take k) (fun s h => HG.out s (List.mem_of_mem_take h))).1
        have hS := joinS_size (A.take k) (fun s h => HG.out s (List.mem_of_mem_take h))
        have hnn := sumI_le (A.take k) (fun s h => HG.out s (List.mem_of_mem_take h))
        have hlen : (A.take k).length = k := by rw [List.length_take]; omega
        rw [hlen] at hnn
        obtain ⟨X, hX⟩ : ∃ X, X = joinS (A.take k) := ⟨_, rfl⟩
        rw [← hX] at hS
        rw [← hS] at hsum hnn hex
        have HN := Lib.hid (show ∀ h : k < A.length, m < X.size + sizeI (A[k]'h) by rw [hS]; exact HN.out)
        have HL := Lib.hid (show ∀ j, k = j + 1 → fitR A ((X.size : Int) - 1) = j by
          intro j hj
          rw [hS, hj]
          exact fit_less A HG.out j (by omega))
        have hpos : ∀ j, k = j + 1 → (0 : Int) < X.size := by
          intro j hj
          rw [hS, hj]
          exact sum_pos A HG.out j (by omega)
        have HP := Lib.hid hpos
        have HE := Lib.hid (And.intro hE hex)
        have J := join_any w1 (some ⟨g, 0, none⟩) cv (A.take k) (Lib.hid (T0.out.take k)) (fun s h => HS.out s (List.mem_of_mem_take h)) (by omega)
        rw [hlen, hE, ← hX] at J
        have HJ := Lib.hid J
        clear hE hex hlen hX hS hpos J HK
        have hk2 : (k : Int) ≤ A.length := by omega
        go_wp2_with fail
        refine HJ.out.mono ?_
        rintro e w2 ⟨rfl, x1⟩
        have hx := hx.trans x1
        have T0 := Lib.hid (T0.out.ext x1)
        clear x1 HJ
        have hsum2 : ¬ m < X.size := by omega
        by_cases c1 : k = A.length
        · by_cases c2 : k = 0
          · skip
            have q2 : ((k : Int) == 0) = true := by simp; omega
            have q1 : ((k : Int) == (A.length : Int)) = true := by simp; omega
            clear c1 c2
            go_wp2_with fail
            refine (fit_any _ (some ⟨g, 0, none⟩) cv A (X.size : Int) T0 HS.out (by omega) (by omega)).mono ?_
            rintro e w4 ⟨rfl, x1⟩
            have hx := hx.trans x1
            have T0 := Lib.hid (T0.out.ext x1)
            clear x1
            rw [HE.out.2]
            go_wp2_with fail
            refine (awake_any _).mono ?_
            rintro e w6 ⟨rfl, x1⟩
            have hx := hx.trans x1
            clear x1
            go_wp2_with fail
            go_ret
            exact ⟨rfl, hx⟩
          · skip
            obtain ⟨k2, hk22⟩ : ∃ k2, k = k2 + 1 := ⟨k - 1, by omega⟩
            have HQ := Lib.hid (HL.out k2 hk22)
            have hpx := HP.out k2 hk22
            have q2 : ((k : Int) == 0) = false := by simp; omega
            have q3 : ((k2 : Int) == (k : Int) - 1) = true := by simp; omega
            have hw2 : IntKind.i64.wrap ((X.size : Int) - 1) = (X.size : Int) - 1 := IntWalk.i64_in _ (by omega)
            have hw3 : IntKind.i64.wrap ((k : Int) - 1) = (k : Int) - 1 := IntWalk.i64_in _ (by omega)
            clear hk22
            have q1 : ((k : Int) == (A.length : Int)) = true := by simp; omega
            clear c1 c2
            go_wp2_with fail
            refine (fit_any _ (some ⟨g, 0, none⟩) cv A (X.size : Int) T0 HS.out (by omega) (by omega)).mono ?_
            rintro e w4 ⟨rfl, x1⟩
            have hx := hx.trans x1
            have T0 := Lib.hid (T0.out.ext x1)
            clear x1
            rw [HE.out.2]
            go_wp2_with fail
            refine (fit_any _ (some ⟨g, 0, none⟩) cv A ((X.size : Int) - 1) T0 HS.out (by omega) (by omega)).mono ?_
            rintro e w5 ⟨rfl, x1⟩
            have hx := hx.trans x1
            clear x1
            rw [HQ.out]
            go_wp2_with fail
            refine (awake_any _).mono ?_
            rintro e w6 ⟨rfl, x1⟩
            have hx := hx.trans x1
            clear x1
            go_wp2_with fail
            go_ret
            exact ⟨rfl, hx⟩
        · by_cases c2 : k = 0
          · skip
            have q2 : ((k : Int) == 0) = true := by simp; omega
            have q1 : ((k : Int) == (A.length : Int)) = false := by simp; omega
            have hlt3 : k < A.length := by omega
            have hlt4 : (k : Int) < A.length := by omega
            obtain ⟨g2, o2, e2, hc⟩ := T0.out.get hlt3
            have hnx := HN.out hlt3
            have hsz := HS.out _ (List.getElem_mem hlt3)
            have hzz := size_nn _ hsz
            have hg0 := HG.out _ (List.getElem_mem hlt3)
            have hz4 := (put_len2 hg0).2
            have hz5 := good_small hg0
            cases e2
            rw [Nat.zero_add] at hc
            generalize A[k] = s at *
            obtain ⟨z, hz⟩ : ∃ z, z = sizeI s := ⟨_, rfl⟩
            rw [← hz] at hnx hzz hz4
            have HZ2 := Lib.hid hz
            obtain ⟨hz0', hz1'⟩ := hzz
            have hz6 : z ≤ 130 := by omega
            have hw1 : IntKind.i64.wrap ((X.size : Int) + z) = (X.size : Int) + z := IntWalk.i64_in _ (by omega)
            clear c1 c2 hz4 hz5 hz hg0
            go_wp2_with fail
            refine (size_any _ s hsz).mono ?_
            rintro e w3 ⟨rfl, hw0⟩
            subst hw0
            rw [← HZ2.out]
            go_wp2_with fail
            refine (fit_any _ (some ⟨g, 0, none⟩) cv A (X.size : Int) T0 HS.out (by omega) (by omega)).mono ?_
            rintro e w4 ⟨rfl, x1⟩
            have hx := hx.trans x1
            have T0 := Lib.hid (T0.out.ext x1)
            clear x1
            rw [HE.out.2]
            go_wp2_with fail
            refine (awake_any _).mono ?_
            rintro e w6 ⟨rfl, x1⟩
            have hx := hx.trans x1
            clear x1
            go_wp2_with fail
            go_ret
            exact ⟨rfl, hx⟩
          · skip
            obtain ⟨k2, hk22⟩ : ∃ k2, k = k2 + 1 := ⟨k - 1, by omega⟩
            have HQ := Lib.hid (HL.out k2 hk22)
            have hpx := HP.out k2 hk22
            have q2 : ((k : Int) == 0) = false := by simp; omega
            have q3 : ((k2 : Int) == (k : Int) - 1) = true := by simp; omega
            have hw2 : IntKind.i64.wrap ((X.size : Int) - 1) = (X.size : Int) - 1 := IntWalk.i64_in _ (by omega)
            have hw3 : IntKind.i64.wrap ((k : Int) - 1) = (k : Int) - 1 := IntWalk.i64_in _ (by omega)
            clear hk22
            have q1 : ((k : Int) == (A.length : Int)) = false := by simp; omega
            have hlt3 : k < A.length := by omega
            have hlt4 : (k : Int) < A.length := by omega
            obtain ⟨g2, o2, e2, hc⟩ := T0.out.get hlt3
            have hnx := HN.out hlt3
            have hsz := HS.out _ (List.getElem_mem hlt3)
            have hzz := size_nn _ hsz
            have hg0 := HG.out _ (List.getElem_mem hlt3)
            have hz4 := (put_len2 hg0).2
            have hz5 := good_small hg0
            cases e2
            rw [Nat.zero_add] at hc
            generalize A[k] = s at *
            obtain ⟨z, hz⟩ : ∃ z, z = sizeI s := ⟨_, rfl⟩
            rw [← hz] at hnx hzz hz4
            have HZ2 := Lib.hid hz
            obtain ⟨hz0', hz1'⟩ := hzz
            have hz6 : z ≤ 130 := by omega
            have hw1 : IntKind.i64.wrap ((X.size : Int) + z) = (X.size : Int) + z := IntWalk.i64_in _ (by omega)
            clear c1 c2 hz4 hz5 hz hg0
            go_wp2_with fail
            refine (size_any _ s hsz).mono ?_
            rintro e w3 ⟨rfl, hw0⟩
            subst hw0
            rw [← HZ2.out]
            go_wp2_with fail
            refine (fit_any _ (some ⟨g, 0, none⟩) cv A (X.size : Int) T0 HS.out (by omega) (by omega)).mono ?_
            rintro e w4 ⟨rfl, x1⟩
            have hx := hx.trans x1
            have T0 := Lib.hid (T0.out.ext x1)
            clear x1
            rw [HE.out.2]
            go_wp2_with fail
            refine (fit_any _ (some ⟨g, 0, none⟩) cv A ((X.size : Int) - 1) T0 HS.out (by omega) (by omega)).mono ?_
            rintro e w5 ⟨rfl, x1⟩
            have hx := hx.trans x1
            clear x1
            rw [HQ.out]
            go_wp2_with fail
            refine (awake_any _).mono ?_
            rintro e w6 ⟨rfl, x1⟩
            have hx := hx.trans x1
            clear x1
            go_wp2_with fail
            go_ret
            exact ⟨rfl, hx⟩


end Go.Proofs.Ytgkeeibjchjlaaa
