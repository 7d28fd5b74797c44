/- Plain laws: what is joined is told, what is told is joined; as many as fit fit. -/
import Derived.Test.YtgkeeibjchjlaaaL
namespace Go.Proofs.Ytgkeeibjchjlaaa
set_option linter.unusedSimpArgs false
set_option linter.unusedVariables false
open Go.RowKit

theorem txt_list (l : List UInt8) : (txt l).data.toList = l := by simp [txt]

theorem put_list {s : ByteArray} (h : putE s = 0) : ¬ s.size = 0 ∧ ¬ 128 < s.size ∧ (putS s).data.toList = layL s.size 2 ++ s.data.toList := by
  have h0 : ¬ s.size = 0 := fun e => by rw [(put_empty e).1] at h; exact absurd h (by decide)
  have h1 : ¬ 128 < s.size := fun e => by rw [(put_long e).1] at h; exact absurd h (by decide)
  exact ⟨h0, h1, by rw [(put_ok h0 h1).2.1, txt_app, txt_list]⟩

theorem put_len2 {s : ByteArray} (h : putE s = 0) : (putS s).data.toList.length = 2 + s.size ∧ sizeI s = 2 + s.size := by
  obtain ⟨h0, h1, h2⟩ := put_list h
  exact ⟨by rw [h2, layL_two, List.length_append, size_list]; simp, (put_ok h0 h1).2.2⟩

/-- A text's frame is read back. -/
theorem get_put {s : ByteArray} (R : List UInt8) (h : putE s = 0) :
    getE (txt ((putS s).data.toList ++ R)) = 0 ∧ getS (txt ((putS s).data.toList ++ R)) = s ∧ getN (txt ((putS s).data.toList ++ R)) = 2 + s.size := by
  obtain ⟨h0, h1, h2⟩ := put_list h
  have hL : (putS s).data.toList ++ R = UInt8.ofNat (s.size / 256 % 256) :: UInt8.ofNat (s.size % 256) :: (s.data.toList ++ R) := by
    rw [h2, layL_two]; simp
  rw [hL]
  generalize hLL : UInt8.ofNat (s.size / 256 % 256) :: UInt8.ofNat (s.size % 256) :: (s.data.toList ++ R) = L at *
  have hlen : L.length = 2 + s.size + R.length := by rw [← hLL]; simp [size_list]; omega
  have hb0 : byteI (txt L) 0 = 0 := by
    rw [byte_txt L 0 (by omega)]
    have : L[0]'(by omega) = UInt8.ofNat (s.size / 256 % 256) := by simp only [← hLL]; rfl
    rw [this]
    simp
    omega
  have hb1 : byteI (txt L) 1 = s.size := by
    rw [byte_txt L 1 (by omega)]
    have : L[1]'(by omega) = UInt8.ofNat (s.size % 256) := by simp only [← hLL]; rfl
    rw [this]
    simp
    omega
  have hH : headN (txt L) = s.size := by unfold headN; rw [hb0, hb1]; omega
  have hE : getE (txt L) = 0 := by
    unfold getE
    rw [txt_size, hH]
    rw [if_neg (by omega), if_neg (by omega), if_neg (by omega), if_neg (by omega)]
  refine ⟨hE, ?_, ?_⟩
  · unfold getS
    rw [if_pos hE, hH, extract_txt, ← hLL]
    rw [show (2 + (s.size : Int)).toNat - 2 = s.size by omega]
    rw [List.drop_succ_cons, List.drop_succ_cons, List.drop_zero, List.take_left' (size_list _), txt_data]
  · unfold getN
    rw [if_pos hE, hH]

/-- The first frame is a text's. -/
theorem put_get {L : List UInt8} (h : getE (txt L) = 0) : putE (getS (txt L)) = 0 ∧ (putS (getS (txt L))).data.toList ++ L.drop (getN (txt L)).toNat = L := by
  have h' := h
  have hb := head_bounds (txt L)
  unfold getE at h
  rw [txt_size] at h
  by_cases c0 : L.length < 2
  · rw [if_pos c0] at h; exact absurd h (by decide)
  rw [if_neg c0] at h
  by_cases c1 : headN (txt L) = 0
  · rw [if_pos c1] at h; exact absurd h (by decide)
  rw [if_neg c1] at h
  by_cases c2 : 128 < headN (txt L)
  · rw [if_pos c2] at h; exact absurd h (by decide)
  rw [if_neg c2] at h
  by_cases c3 : (L.length : Int) - 2 < headN (txt L)
  · rw [if_pos c3] at h; exact absurd h (by decide)
  obtain ⟨n, hn⟩ : ∃ n : Nat, headN (txt L) = n := ⟨(headN (txt L)).toNat, by omega⟩
  match L, c0 with
  | x :: y :: T, _ =>
    have hx : byteI (txt (x :: y :: T)) 0 = (x.toNat : Int) := by rw [byte_txt _ 0 (by simp)]; rfl
    have hy : byteI (txt (x :: y :: T)) 1 = (y.toNat : Int) := by rw [byte_txt _ 1 (by simp)]; rfl
    have hnn : (n : Int) = 256 * x.toNat + y.toNat := by rw [← hn]; unfold headN; rw [hx, hy]
    have hS : getS (txt (x :: y :: T)) = txt (T.take n) := by
      unfold getS
      rw [if_pos h', hn, extract_txt, show (2 + (n : Int)).toNat - 2 = n by omega]
      rfl
    have hN : getN (txt (x :: y :: T)) = 2 + n := by unfold getN; rw [if_pos h', hn]
    simp only [List.length_cons] at c3
    rw [hn] at c1 c2 c3
    have hts : (txt (T.take n)).size = n := by rw [txt_size, List.length_take]; omega
    have hE : putE (txt (T.take n)) = 0 := by unfold putE; rw [hts, if_neg (by omega), if_neg (by omega)]
    rw [hS, hN]
    refine ⟨hE, ?_⟩
    rw [(put_list hE).2.2, hts, layL_two, txt_list, show (2 + (n : Int)).toNat = n + 2 by omega]
    have ex : UInt8.ofNat (n / 256 % 256) = x := by
      rw [show n / 256 % 256 = x.toNat by omega]
      simp
    have ey : UInt8.ofNat (n % 256) = y := by
      rw [show n % 256 = y.toNat by omega]
      simp
    rw [ex, ey]
    simp [List.take_append_drop]

theorem put_nil {s : ByteArray} (R : List UInt8) (h : putE s = 0) : ¬ (putS s).data.toList ++ R = [] := fun e => by
  have := congrArg List.length e
  rw [List.length_append, (put_len2 h).1] at this
  simp at this

/-- Texts that are joined. -/
theorem join_fine : ∀ l : List ByteArray, (∀ s ∈ l, putE s = 0) → (joinR l).2 = 0
  | [], _ => rfl
  | s :: r, h => by
    rw [joinR_cons, if_pos (h s (by simp))]
    exact join_fine r (fun x hx => h x (by simp [hx]))
theorem join_all : ∀ l : List ByteArray, (∀ s ∈ l, putE s = 0) → allL (joinR l).1.length (joinR l).1 = (l, 0)
  | [], _ => rfl
  | s :: r, h => by
    have hs := h s (by simp)
    have ih := join_all r (fun x hx => h x (by simp [hx]))
    rw [joinR_cons, if_pos hs]
    obtain ⟨g1, g2, g3⟩ := get_put (joinR r).1 hs
    show allL ((putS s).data.toList ++ (joinR r).1).length ((putS s).data.toList ++ (joinR r).1) = _
    rw [allL_yes (put_nil _ hs) g1, g2, g3, show (2 + (s.size : Int)).toNat = (putS s).data.toList.length by have := (put_len2 hs).1; omega, List.drop_left, ih]

/-- Bytes that are told. -/
theorem all_join : ∀ (f : Nat) (L : List UInt8), L.length ≤ f → (allL f L).2 = 0 → joinR (allL f L).1 = (L, 0)
  | 0, L, hf, _ => by
    have : L = [] := List.eq_nil_of_length_eq_zero (by omega)
    rw [this]; rfl
  | f + 1, L, hf, h => by
    unfold allL at h ⊢
    by_cases hL : L = []
    · rw [if_pos hL, hL]; rfl
    · rw [if_neg hL] at h ⊢
      by_cases hE : getE (txt L) = 0
      · rw [if_pos hE] at h ⊢
        have hn := get_yes hE
        rw [txt_size] at hn
        have ih := all_join f (L.drop (getN (txt L)).toNat) (by rw [List.length_drop]; omega) h
        obtain ⟨p1, p2⟩ := put_get hE
        rw [joinR_cons, if_pos p1, ih, p2]
      · rw [if_neg hE] at h
        exact absurd h hE

/-- What is told of joined texts. -/
theorem back_joined (l : List ByteArray) (h : ∀ s ∈ l, putE s = 0) : joinE l = 0 ∧ allE (joinS l) = 0 ∧ allT (joinS l) = l ∧ countN (joinS l) = l.length := by
  have h1 : joinE l = 0 := join_fine l h
  have h2 : joinS l = txt (joinR l).1 := if_pos h1
  have h3 : allOf (joinS l) = (l, 0) := by
    unfold allOf
    rw [h2, txt_size, txt_list]
    exact join_all l h
  have h4 : allE (joinS l) = 0 := by unfold allE; rw [h3]
  exact ⟨h1, h4, by rw [allT_yes h4, h3], by unfold countN; rw [h3]⟩
theorem back_told (b : ByteArray) (h : allE b = 0) : joinE (allT b) = 0 ∧ joinS (allT b) = b := by
  have e := all_join b.size b.data.toList (by rw [size_list]; exact Nat.le_refl _) h
  rw [allT_yes h]
  have h1 : joinE (allOf b).1 = 0 := by unfold joinE; rw [show joinR (allOf b).1 = (b.data.toList, 0) from e]
  exact ⟨h1, by unfold joinS; rw [if_pos h1, show joinR (allOf b).1 = (b.data.toList, 0) from e]⟩

/-- How many bytes some texts' frames have. -/
def sumI : List ByteArray → Int
  | [] => 0
  | s :: r => sizeI s + sumI r
theorem sumI_append (a b : List ByteArray) : sumI (a ++ b) = sumI a + sumI b := by
  induction a with
  | nil => simp [sumI]
  | cons s r ih => simp only [List.cons_append, sumI, ih]; omega
theorem sumI_nn (l : List ByteArray) : 0 ≤ sumI l := by
  induction l with
  | nil => simp [sumI]
  | cons s r ih =>
    have : 0 ≤ sizeI s := by unfold sizeI; split <;> omega
    simp only [sumI]; omega
theorem join_size : ∀ l : List ByteArray, (∀ s ∈ l, putE s = 0) → ((joinR l).1.length : Int) = sumI l
  | [], _ => rfl
  | s :: r, h => by
    have hs := h s (by simp)
    have ih := join_size r (fun x hx => h x (by simp [hx]))
    rw [joinR_cons, if_pos hs]
    simp only [sumI, List.length_append]
    rw [← ih, (put_len2 hs).2]
    have := (put_len2 hs).1
    omega
theorem joinS_size (l : List ByteArray) (h : ∀ s ∈ l, putE s = 0) : ((joinS l).size : Int) = sumI l := by
  have h1 : joinE l = 0 := join_fine l h
  have h2 : joinS l = txt (joinR l).1 := if_pos h1
  rw [h2, txt_size]
  exact join_size l h

theorem size_pos {s : ByteArray} : 0 < sizeI s ↔ putE s = 0 := by
  unfold sizeI
  split
  · rename_i h; exact ⟨fun _ => h, fun _ => by omega⟩
  · rename_i h; exact ⟨fun x => absurd x (by decide), fun x => absurd x h⟩

theorem fitR_cons (s : ByteArray) (r : List ByteArray) (m : Int) : fitR (s :: r) m = if sizeI s = 0 ∨ m < sizeI s then 0 else 1 + fitR r (m - sizeI s) := rfl
theorem sumI_take (s : ByteArray) (r : List ByteArray) (k : Nat) : sumI ((s :: r).take (k + 1)) = sizeI s + sumI (r.take k) := by rw [List.take_succ_cons]; rfl
/-- As many as fit fit, and not one more. -/
theorem fit_le (l : List ByteArray) (m : Int) : fitR l m ≤ l.length := by
  induction l generalizing m with
  | nil => simp [fitR]
  | cons s r ih =>
    unfold fitR
    split
    · simp
    · have := ih (m - sizeI s); rw [List.length_cons]; omega
theorem fit_sum (l : List ByteArray) (m : Int) (hm : 0 ≤ m) : sumI (l.take (fitR l m)) ≤ m := by
  induction l generalizing m with
  | nil => simpa [fitR, sumI] using hm
  | cons s r ih =>
    unfold fitR
    split
    · simpa [sumI] using hm
    · rename_i h
      have := ih (m - sizeI s) (by omega)
      rw [Nat.add_comm, List.take_succ_cons]
      simp only [sumI]
      omega
theorem fit_next (l : List ByteArray) (hl : ∀ s ∈ l, putE s = 0) (m : Int) (h : fitR l m < l.length) : m < sumI (l.take (fitR l m)) + sizeI (l[fitR l m]'h) := by
  induction l generalizing m with
  | nil => simp at h
  | cons s r ih =>
    have hs := size_pos.2 (hl s (by simp))
    by_cases c : sizeI s = 0 ∨ m < sizeI s
    · have e : fitR (s :: r) m = 0 := by unfold fitR; rw [if_pos c]
      simp only [e]
      simp [sumI]
      omega
    · have e : fitR (s :: r) m = fitR r (m - sizeI s) + 1 := by
        show (if sizeI s = 0 ∨ m < sizeI s then 0 else 1 + fitR r (m - sizeI s)) = _
        rw [if_neg c]; omega
      rw [e] at h
      have := ih (fun x hx => hl x (by simp [hx])) (m - sizeI s) (by simpa using h)
      simp only [e, List.take_succ_cons, sumI, List.getElem_cons_succ]
      omega
theorem fit_exact (l : List ByteArray) (hl : ∀ s ∈ l, putE s = 0) (k : Nat) (hk : k ≤ l.length) : fitR l (sumI (l.take k)) = k := by
  induction l generalizing k with
  | nil => simp at hk; subst hk; rfl
  | cons s r ih =>
    have hs := size_pos.2 (hl s (by simp))
    cases k with
    | zero => rw [fitR_cons, if_pos (.inr (by simpa [sumI] using hs))]
    | succ k =>
      have hn := sumI_nn (r.take k)
      rw [sumI_take, fitR_cons]
      rw [if_neg (by omega), show sizeI s + sumI (r.take k) - sizeI s = sumI (r.take k) by omega, ih (fun x hx => hl x (by simp [hx])) k (by simpa using hk)]
      omega
theorem sum_pos (l : List ByteArray) (hl : ∀ s ∈ l, putE s = 0) (k : Nat) (hk : k + 1 ≤ l.length) : 0 < sumI (l.take (k + 1)) := by
  cases l with
  | nil => simp at hk
  | cons s r =>
    have hs := size_pos.2 (hl s (by simp))
    have := sumI_nn (r.take k)
    rw [List.take_succ_cons]
    simp only [sumI]
    omega
theorem fit_less (l : List ByteArray) (hl : ∀ s ∈ l, putE s = 0) (k : Nat) (hk : k + 1 ≤ l.length) : fitR l (sumI (l.take (k + 1)) - 1) = k := by
  induction l generalizing k with
  | nil => simp at hk
  | cons s r ih =>
    have hs := size_pos.2 (hl s (by simp))
    cases k with
    | zero => rw [sumI_take, fitR_cons, if_pos (.inr (by simp [sumI]; omega))]
    | succ k =>
      have hp := sum_pos r (fun x hx => hl x (by simp [hx])) k (by simpa using hk)
      rw [sumI_take, fitR_cons]
      rw [if_neg (by omega), show sizeI s + sumI (r.take (k + 1)) - 1 - sizeI s = sumI (r.take (k + 1)) - 1 by omega, ih (fun x hx => hl x (by simp [hx])) k (by simpa using hk)]
      omega

end Go.Proofs.Ytgkeeibjchjlaaa
