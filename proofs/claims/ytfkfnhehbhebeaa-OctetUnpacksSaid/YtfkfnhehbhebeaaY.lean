/- Plain laws: what was laid is read. -/
import Derived.Test.YtfkfnhehbhebeaaN
namespace Go.Proofs.Ytfkfnhehbhebeaa
set_option linter.unusedSimpArgs false
set_option linter.unusedVariables false
open Go.RowKit

/-- A text of these bytes. -/
abbrev txt (l : List UInt8) : ByteArray := ⟨l.toArray⟩

theorem txt_size (l : List UInt8) : (txt l).size = l.length := by simp [ByteArray.size]

theorem byte_txt (l : List UInt8) (i : Nat) (h : i < l.length) : byteI (txt l) i = (l[i].toNat : Int) := by
  unfold byteI
  rw [dif_pos (by rw [txt_size]; exact h)]
  rfl

theorem extract_txt (l : List UInt8) (a b : Nat) : (txt l).extract a b = txt ((l.drop a).take (b - a)) := ByteArray.extract_mk l a b

theorem txt_data (s : ByteArray) : txt s.data.toList = s := by
  cases s
  simp [txt]

theorem digit_num (N K j : Nat) (hj : j + 1 ≤ K) : 256 * (N / 256 ^ (K - j) % 256 ^ j) + digit N (K - 1 - j) = N / 256 ^ (K - (j + 1)) % 256 ^ (j + 1) := by
  obtain ⟨M, hM⟩ : ∃ M, M = N / 256 ^ (K - (j + 1)) := ⟨_, rfl⟩
  have e : N / 256 ^ (K - j) = M / 256 := by
    rw [hM, Nat.div_div_eq_div_mul, ← Nat.pow_succ]
    congr 2
    omega
  have e2 : digit N (K - 1 - j) = M % 256 := by
    unfold digit
    rw [hM, show K - (j + 1) = K - 1 - j by omega]
  rw [e, e2, ← hM, Nat.pow_succ, Nat.mul_comm (256 ^ j) 256, Nat.mod_mul]
  omega

theorem num_laid (l : List UInt8) (p N K : Nat) (h : ∀ i, i < K → byteI (txt l) (p + i) = (digit N (K - 1 - i) : Int)) : ∀ j, j ≤ K → numN (txt l) p j = ((N / 256 ^ (K - j) % 256 ^ j : Nat) : Int)
  | 0, _ => by simp [numN, Nat.mod_one]
  | j + 1, hj => by
    have ih := num_laid l p N K h j (by omega)
    simp only [numN]
    rw [ih, h j (by omega), ← digit_num N K j hj]
    simp

theorem lay_byte (pre post : List UInt8) (N K i : Nat) (hi : i < K) : byteI (txt (pre ++ (layL N K ++ post))) (pre.length + i) = (digit N (K - 1 - i) : Int) := by
  have hd : digit N (K - 1 - i) < 256 := Nat.mod_lt _ (by decide)
  rw [byte_txt _ _ (by simp [layL]; omega)]
  rw [List.getElem_append_right (by omega)]
  simp only [Nat.add_sub_cancel_left]
  rw [List.getElem_append_left (by simp [layL]; exact hi)]
  simp only [layL, List.getElem_map, List.getElem_range, UInt8.toNat_ofNat']
  rw [Nat.mod_eq_of_lt hd]

theorem num_read (pre post : List UInt8) (N K : Nat) : numN (txt (pre ++ (layL N K ++ post))) pre.length K = ((N % 256 ^ K : Nat) : Int) := by
  have h := num_laid (pre ++ (layL N K ++ post)) pre.length N K (fun i hi => lay_byte pre post N K i hi) K (Nat.le_refl _)
  simpa using h

theorem fault_in {s : ByteArray} {p : Int} (h0 : 0 ≤ p) (h1 : p ≤ s.size) : faultI s p 0 = 0 := by
  unfold faultI
  rw [if_neg (by omega)]

theorem num_in {s : ByteArray} {p k : Nat} (hw : wideB k = true) (h : p + k ≤ s.size) : numP s p 0 k = (p + k : Nat) ∧ numE s p 0 k = 0 ∧ numI s p 0 k = numN s p k := by
  have hf : faultI s p 0 = 0 := fault_in (by omega) (by omega)
  have hl := left_ok hf
  have hk : (k : Int) ≤ leftI s p 0 := by omega
  exact ⟨(if_pos ⟨hf, hw, hk⟩).trans (by omega), by unfold numE; rw [if_neg (by simp [hf]), if_neg (by simp [hw]), if_pos hk], (if_pos ⟨hf, hw, hk⟩).trans (by simp)⟩

theorem text_in {s : ByteArray} {p n : Nat} {m : Int} (hb : byteI s p = n) (hm : (n : Int) ≤ m) (h : p + 1 + n ≤ s.size) : textP s p 0 m = (p + 1 + n : Nat) ∧ textE s p 0 m = 0 ∧ textS s p 0 m = s.extract (p + 1) (p + 1 + n) := by
  obtain ⟨h1, h2, h3⟩ := num_in (s := s) (p := p) (k := 1) rfl (by omega)
  have h4 : numI s p 0 1 = n := by
    rw [show (1 : Int) = ((1 : Nat) : Int) from rfl, h3]
    show 256 * 0 + byteI s (p + 0) = _
    simp [hb]
  have h2' : numE s p 0 1 = 0 := h2
  have hf : faultI s ((p : Int) + 1) 0 = 0 := fault_in (by omega) (by omega)
  have hl := left_ok hf
  have hle : (n : Int) ≤ leftI s ((p : Int) + 1) 0 := by omega
  have hB : textB s p 0 m = true := by simp [textB, h2', h4, hm, hle]
  refine ⟨(if_pos hB).trans (by rw [h4]; omega), ?_, (if_pos hB).trans ?_⟩
  · unfold textE
    rw [if_neg (by simp [h2']), h4, if_neg (by omega), if_neg (by omega)]
  · rw [h4, show ((p : Int) + 1).toNat = p + 1 by omega, show ((p : Int) + 1 + n).toNat = p + 1 + n by omega]

theorem rest_in {s : ByteArray} {p : Nat} (h : p ≤ s.size) : restP s p 0 = s.size ∧ faultI s p 0 = 0 ∧ restS s p 0 = s.extract p s.size := by
  have hf : faultI s p 0 = 0 := fault_in (by omega) (by omega)
  exact ⟨if_pos hf, hf, (if_pos hf).trans (by simp)⟩

theorem done_in {s : ByteArray} : doneI s s.size 0 = 0 := done_ok (fault_in (by omega) (Int.le_refl _)) (by omega)

theorem say_txt (s : ByteArray) (m : Int) (h : sayE s m = 0) : sayL s m = UInt8.ofNat s.size :: s.data.toList := if_pos h

/-- With a byte less it is cut off. -/
theorem cut_text (s : ByteArray) (m : Int) (hs : s.size ≤ 200) (hm : 200 ≤ m) : textE (txt ((UInt8.ofNat s.size :: s.data.toList).take s.size)) 0 0 m = 3 := by
  have hl : (s.data.toList).length = s.size := size_list s
  by_cases h0 : s.size = 0
  · rw [h0]
    simp only [List.take_zero]
    have hE : numE (txt []) 0 0 1 = 3 := by rfl
    unfold textE
    rw [if_pos (by rw [hE]; decide), hE]
  · obtain ⟨k, hk⟩ : ∃ k, s.size = k + 1 := ⟨s.size - 1, by omega⟩
    have e : (UInt8.ofNat s.size :: s.data.toList).take s.size = UInt8.ofNat s.size :: s.data.toList.take k := by rw [hk, List.take_succ_cons]
    rw [e]
    generalize hL : UInt8.ofNat s.size :: s.data.toList.take k = L
    have hLl : L.length = s.size := by rw [← hL]; simp [hl]; omega
    have hsz : (txt L).size = s.size := by rw [txt_size, hLl]
    obtain ⟨h1, h2, h3⟩ := num_in (s := txt L) (p := 0) (k := 1) rfl (by omega)
    have hb : byteI (txt L) 0 = s.size := by
      rw [byte_txt L 0 (by omega)]
      subst hL
      simp
      omega
    have h2' : numE (txt L) 0 0 1 = 0 := h2
    have h4 : numI (txt L) 0 0 1 = s.size := by
      have h3' : numI (txt L) 0 0 1 = numN (txt L) 0 1 := h3
      rw [h3']
      show 256 * 0 + byteI (txt L) (0 + 0) = _
      simp [hb]
    have hf : faultI (txt L) ((0 : Int) + 1) 0 = 0 := fault_in (by omega) (by omega)
    have hlf := left_ok hf
    unfold textE
    rw [if_neg (by simp [h2']), h4, if_neg (by omega), if_pos (by omega)]

end Go.Proofs.Ytfkfnhehbhebeaa
