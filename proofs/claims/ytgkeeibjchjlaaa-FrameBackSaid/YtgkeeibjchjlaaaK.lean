/- The frames of bytes, handed over one by one. -/
import Derived.Test.YtgkeeibjchjlaaaJ
namespace Go.Proofs.Ytgkeeibjchjlaaa
set_option linter.unusedSimpArgs false
set_option linter.unusedVariables false
open Go.RowKit
open Go.Shelf

attribute [local go_sem] Oper.semAt_some

/-- What the frames of these bytes are told as: texts and errors. -/
def itemsL : Nat → List UInt8 → List (ByteArray × Int)
  | 0, _ => []
  | f + 1, L => if L = [] then [] else (getS (txt L), getE (txt L)) :: (if getE (txt L) = 0 then itemsL f (L.drop (getN (txt L)).toNat) else [])

theorem itemsL_nil (f : Nat) : itemsL f [] = [] := by cases f <;> rfl
theorem itemsL_fuel : ∀ (f g : Nat) (L : List UInt8), L.length ≤ f → L.length ≤ g → itemsL f L = itemsL g L
  | 0, g, L, hf, hg => by
    have : L = [] := List.eq_nil_of_length_eq_zero (by omega)
    rw [this, itemsL_nil, itemsL_nil]
  | f + 1, 0, L, hf, hg => by
    have : L = [] := List.eq_nil_of_length_eq_zero (by omega)
    rw [this, itemsL_nil, itemsL_nil]
  | f + 1, g + 1, L, hf, hg => by
    unfold itemsL
    by_cases hL : L = []
    · rw [if_pos hL, if_pos hL]
    · rw [if_neg hL, if_neg hL]
      by_cases hE : getE (txt L) = 0
      · rw [if_pos hE, if_pos hE]
        have hn := get_yes hE
        rw [txt_size] at hn
        have hd : (L.drop (getN (txt L)).toNat).length ≤ f ∧ (L.drop (getN (txt L)).toNat).length ≤ g := by rw [List.length_drop]; omega
        rw [itemsL_fuel f g _ hd.1 hd.2]
      · rw [if_neg hE, if_neg hE]
/-- The frames of bytes. -/
def itemsT (b : ByteArray) : List (ByteArray × Int) := itemsL b.size b.data.toList
theorem itemsT_txt (L : List UInt8) : itemsT (txt L) = itemsL L.length L := by unfold itemsT; rw [txt_size]

/-- One item more. -/
theorem items_yes {L : List UInt8} (hL : ¬ L = []) (h : getE (txt L) = 0) : itemsT (txt L) = (getS (txt L), getE (txt L)) :: itemsT (txt (L.drop (getN (txt L)).toNat)) := by
  have hn := get_yes h
  rw [txt_size] at hn
  obtain ⟨f, hf⟩ : ∃ f, L.length = f + 1 := ⟨L.length - 1, by omega⟩
  rw [itemsT_txt, itemsT_txt, hf]
  conv => lhs; unfold itemsL
  rw [if_neg hL, if_pos h, itemsL_fuel f _ _ (by rw [List.length_drop]; omega) (Nat.le_refl _)]
/-- The last item. -/
theorem items_no {L : List UInt8} (hL : ¬ L = []) (h : ¬ getE (txt L) = 0) : itemsT (txt L) = [(getS (txt L), getE (txt L))] := by
  obtain ⟨f, hf⟩ : ∃ f, L.length = f + 1 := ⟨L.length - 1, by have : L.length ≠ 0 := fun h => hL (List.eq_nil_of_length_eq_zero h); omega⟩
  rw [itemsT_txt, hf]
  unfold itemsL
  rw [if_neg hL, if_neg h]
/-- The items and the document's texts. -/
theorem all_items : ∀ (f : Nat) (L : List UInt8), L.length ≤ f → allL f L = (((itemsL f L).filter (fun x => x.2 == 0)).map Prod.fst, ((itemsL f L).getLast?.map Prod.snd).getD 0)
  | 0, _, _ => rfl
  | f + 1, L, hf => by
    unfold allL itemsL
    by_cases hL : L = []
    · rw [if_pos hL, if_pos hL]; rfl
    · rw [if_neg hL, if_neg hL]
      by_cases hE : getE (txt L) = 0
      · rw [if_pos hE, if_pos hE]
        have hn := get_yes hE
        rw [txt_size] at hn
        have ih := all_items f (L.drop (getN (txt L)).toNat) (by rw [List.length_drop]; omega)
        rw [ih]
        generalize itemsL f (L.drop (getN (txt L)).toNat) = xs
        rw [hE]
        cases xs with
        | nil => simp
        | cons y ys => simp [List.getLast?_cons_cons]
      · rw [if_neg hE, if_neg hE]
        simp [hE]

/-- How many bytes are left in the box. -/
def leftAt (B : Nat) (w : World) : Nat := match w.cell? ⟨B, 0, none⟩ with
  | some (.string s) => s.size
  | _ => 0
theorem leftAt_eq {B : Nat} {w : World} {s : ByteArray} {t : TypeId} (h : Boxed w B t (.string s)) : leftAt B w = s.size := by
  unfold leftAt; rw [h.cell]

theorem slice_rest (R : List UInt8) (n : Nat) (h : n ≤ R.length) : (txt R).extract n (txt R).size = txt (R.drop n) := by
  have e := slice_txt (txt R) n (by rw [txt_size]; exact h)
  simpa using e

set_option maxRecDepth 100000 in
set_option maxHeartbeats 8000000 in
theorem walk_gives (n : Nat) (hn : 1 ≤ n) (B : Nat) (b : ByteArray) (hs : b.size ≤ 1000000) (w : World) (hB : Boxed w B 9 (.string b)) :
    GivesAt Fence.wide n Try.prog 33 #[.pointer (some ⟨B, 0, none⟩)] (fun x : ByteArray × Int => #[Value.string x.1, Value.int .i64 x.2]) B (itemsT b) w := fun l J Jx W hW hJ hJx hY h0 => by
  have hBW : Boxed W B 9 (.string b) := hW.trans hB
  clear hW hB w
  refine callsIn_of_wp Try.func33 rfl trivial ?_ rfl
  simp only [Try.ntmps33, List.size_toArray, List.length_cons, List.length_nil, Nat.reduceAdd, Nat.reduceSub, Array.replicate_succ, Array.replicate_zero, List.push_toArray, List.append_toArray, List.nil_append, List.cons_append]
  have h1 : 1 ≤ n := hn
  gi_wp2_with fail
  gi_loopw [3] (fun _ wr => ∃ (pre : List (ByteArray × Int)) (L : List UInt8), L.length ≤ b.size ∧ Boxed wr B 9 (.string (txt L)) ∧ itemsT b = pre ++ itemsT (txt L) ∧ J pre wr)
    (fun _ wr => leftAt B wr)
  case atStart => exact ⟨[], b.data.toList, by rw [size_list]; exact Nat.le_refl _, by rw [txt_data]; exact hBW, by rw [txt_data]; rfl, h0⟩
  case round =>
    obtain ⟨pre, L, hL, bx, hi, hj⟩ := hrel
    have hc := bx.cell
    have hfz := bx.frozen
    by_cases hL0 : L = []
    · subst hL0
      clear bx
      gi_wp2_with fail
      go_end0
      exact ⟨⟨_, rfl⟩, .inl (by rw [hi, itemsT_txt, itemsL_nil]; simpa using hj)⟩
    · have hne0 : ¬ (txt L).size = 0 := fun h => hL0 (List.eq_nil_of_length_eq_zero (by rw [← txt_size]; exact h))
      have hq := empty_no hne0
      obtain ⟨R, hR⟩ : ∃ R : ByteArray, R = txt L := ⟨_, rfl⟩
      have hRs : R.size = L.length := by rw [hR, txt_size]
      rw [← hR] at bx hc hq hne0
      have hRs1 : R.size ≤ 1000000 := by omega
      have HR := Lib.hid hR
      have BX := Lib.hid bx
      have B0 := Lib.hid (leftAt_eq bx)
      by_cases hE : getE R = 0
      · have hng := get_yes hE
        obtain ⟨k, hk⟩ : ∃ k : Nat, getN R = k := ⟨(getN R).toNat, by omega⟩
        rw [hk] at hng
        obtain ⟨hk3, hk4, hk5⟩ := hng
        have HI := Lib.hid (show itemsT b = pre ++ (getS R, getE R) :: itemsT (txt (L.drop k)) by
          rw [hi, items_yes hL0 (by rw [← hR]; exact hE), ← hR, hk]; rfl)
        have HS := Lib.hid (show R.extract k R.size = txt (L.drop k) by
          rw [hR]; exact slice_rest L k (by omega))
        have HE := Lib.hid hE
        have HK := Lib.hid hk
        have hdl : (L.drop k).length = L.length - k := List.length_drop
        have HDL := Lib.hid hdl
        clear bx hi hE hk hR hdl
        gi_wp2_with fail
        refine ⟨trivial, (callsIn_wide.2 (get_any _ R hRs1)).mono ?_⟩
        rintro e w2 ⟨rfl, x2⟩
        have BX := Lib.hid (Boxed.kept BX.out (x2.gr none) (by simp))
        have hj := hJ _ _ _ none hj (x2.gr none) (by simp)
        have hc := BX.out.cell
        rw [HE.out, HK.out]
        have HI := HI.out
        rw [HE.out] at HI
        obtain ⟨fn, tmps, assign, body, hy, hRd⟩ := hY pre (getS R, 0) w2 hj ⟨_, HI⟩
        have HI := Lib.hid HI
        dsimp only at hy
        clear hY h0 x2
        generalize getS R = sx at *
        gi_wp2_with fail
        refine hRd.mono ?_
        rintro e w3 (⟨rfl, hj3, hk3⟩ | ⟨rfl, hx3⟩)
        · have BX := Lib.hid (show Boxed w3 B 9 (.string R) from hk3.2.trans BX.out)
          have hc := BX.out.cell
          have hfz := BX.out.frozen
          have hki : (0 : Int) ≤ k := by omega
          have hki2 : (k : Int) ≤ R.size := by omega
          clear hk3 hRd hy
          gi_wp2_with fail
          try simp only [Int.toNat_natCast]
          rw [← hRs, HS.out]
          have b2 := BX.out.set (.string (txt (L.drop k)))
          refine ⟨⟨pre ++ [(sx, 0)], L.drop k, by rw [HDL.out]; omega, b2, by rw [HI.out]; simp, hJ _ _ _ (some B) hj3 (grownBy_setCell' w3 B _) (fun r e => by cases e; rfl)⟩, ?_⟩
          rw [leftAt_eq b2, B0.out, txt_size, HDL.out]
          omega
        · clear hRd hy
          gi_wp2_with fail
          refine bodyPost_ret (results_none rfl _ _ _) rfl ?_
          exact ⟨⟨_, rfl⟩, .inr ⟨pre ++ [(sx, 0)], ⟨itemsT (txt (L.drop k)), by rw [HI.out]; simp⟩, hx3⟩⟩
      · have HI := Lib.hid (show itemsT b = pre ++ [(getS R, getE R)] by rw [hi, items_no hL0 (by rw [← hR]; exact hE), ← hR])
        have hne : (getE R != 0) = true := by simpa using hE
        clear bx hi hE hR
        gi_wp2_with fail
        refine ⟨trivial, (callsIn_wide.2 (get_any _ R hRs1)).mono ?_⟩
        rintro e w2 ⟨rfl, x2⟩
        have hj := hJ _ _ _ none hj (x2.gr none) (by simp)
        obtain ⟨fn, tmps, assign, body, hy, hRd⟩ := hY pre (getS R, getE R) w2 hj ⟨_, HI.out⟩
        dsimp only at hy
        clear hY h0 x2
        generalize getS R = sx at *
        generalize getE R = ex at *
        generalize getN R = nx at *
        gi_wp2_with fail
        refine hRd.mono ?_
        rintro e w3 (⟨rfl, hj3, hk3⟩ | ⟨rfl, hx3⟩)
        · clear hRd hy
          gi_wp2_with fail
          refine bodyPost_ret (results_none rfl _ _ _) rfl ?_
          exact ⟨⟨_, rfl⟩, .inl (by rw [HI.out]; exact hj3)⟩
        · clear hRd hy
          gi_wp2_with fail
          refine bodyPost_ret (results_none rfl _ _ _) rfl ?_
          exact ⟨⟨_, rfl⟩, .inr ⟨_, by rw [HI.out]; exact List.prefix_refl _, hx3⟩⟩

set_option maxHeartbeats 1000000 in
/-- The bytes are boxed; the function value captures the box. -/
theorem frames_any (n : Nat) (b : ByteArray) (w : World) :
    CallsIn Fence.wide n Try.prog 26 #[.string b] w fun e w' => e = .returned (.func (.func 33) #[] #[.pointer (some ⟨w.heap.size, 0, none⟩)]) ∧ w' = w.alloc (.cells #[.string b] 9) := by
  refine callsIn_of_wp Try.func26 rfl trivial ?_ rfl
  simp only [Try.ntmps26, List.size_toArray, List.length_cons, List.length_nil, Nat.reduceAdd, Nat.reduceSub, Array.replicate_succ, Array.replicate_zero, List.push_toArray, List.append_toArray, List.nil_append, List.cons_append]
  gi_wp2_with fail
  go_ret
  exact ⟨rfl, rfl⟩

end Go.Proofs.Ytgkeeibjchjlaaa
