/- Plain laws: texts that are packed are unpacked; bytes that are unpacked are packed as they were. -/
import Derived.Test.YtfkfnhehbhebeaaY
namespace Go.Proofs.Ytfkfnhehbhebeaa
set_option linter.unusedSimpArgs false
set_option linter.unusedVariables false
open Go.RowKit

/-- What the packed texts are. -/
theorem packP_split (l : List ByteArray) (m : Int) (j : Nat) (h : j < l.length) : ∃ R, packP l m l.length = packP l m j ++ (sayL l[j] m ++ R) := by
  refine ⟨(l.drop (j + 1)).flatMap fun s => sayL s m, ?_⟩
  unfold packP
  rw [List.take_length]
  have e : l = l.take j ++ (l[j] :: l.drop (j + 1)) := by rw [← List.drop_eq_getElem_cons h, List.take_append_drop]
  conv => lhs; rw [show l.flatMap (fun s => sayL s m) = (l.take j ++ (l[j] :: l.drop (j + 1))).flatMap (fun s => sayL s m) by rw [← e]]
  rw [List.flatMap_append, List.flatMap_cons]
  simp

theorem up_packed (l : List ByteArray) (m : Int) (hm : 60 ≤ m) (hl : l.length ≤ 60) (hs : ∀ q (h : q < l.length), l[q].size ≤ 60) :
    ∀ j, j ≤ l.length → upS (txt (packP l m l.length)) m j = (((packP l m j).length : Int), 0) ∧ upT (txt (packP l m l.length)) m j = l.take j
  | 0, _ => by
    obtain ⟨h1, h2, _⟩ := num_in (s := txt (packP l m l.length)) (p := 0) (k := 1) rfl (by rw [txt_size (packP l m l.length)]; simp [packP])
    refine ⟨?_, by simp [upT]⟩
    show (numP _ 0 0 1, numE _ 0 0 1) = _
    have e1 : numP (txt (packP l m l.length)) 0 0 1 = 1 := h1
    have e2 : numE (txt (packP l m l.length)) 0 0 1 = 0 := h2
    rw [e1, e2]
    simp [packP]
  | j + 1, hj => by
    obtain ⟨ih1, ih2⟩ := up_packed l m hm hl hs j (by omega)
    obtain ⟨R, hR⟩ := packP_split l m j (by omega)
    have hsz := hs j (by omega)
    have hE : sayE l[j] m = 0 := if_neg (by omega)
    have hsay : sayL l[j] m = UInt8.ofNat l[j].size :: l[j].data.toList := if_pos hE
    have hlen : (packP l m l.length).length = (packP l m j).length + (1 + l[j].size + R.length) := by
      rw [hR, hsay]
      simp [size_list]
      omega
    have hb : byteI (txt (packP l m l.length)) (packP l m j).length = l[j].size := by
      rw [byte_txt _ _ (by omega)]
      simp only [hR, hsay]
      rw [List.getElem_append_right (by omega)]
      simp
      omega
    obtain ⟨h1, h2, h3⟩ := text_in (s := txt (packP l m l.length)) (p := (packP l m j).length) (n := l[j].size) (m := m) hb (by omega) (by rw [txt_size (packP l m l.length)]; omega)
    have h3' : textS (txt (packP l m l.length)) (packP l m j).length 0 m = l[j] := by
      rw [h3, extract_txt, hR, hsay]
      rw [show packP l m j ++ (UInt8.ofNat l[j].size :: l[j].data.toList ++ R) = (packP l m j ++ [UInt8.ofNat l[j].size]) ++ (l[j].data.toList ++ R) by simp]
      rw [List.drop_left' (by simp), show (packP l m j).length + 1 + l[j].size - ((packP l m j).length + 1) = l[j].size by omega, List.take_left' (size_list _), txt_data]
    refine ⟨?_, ?_⟩
    · rw [up_step, ih1]
      simp only
      rw [h1, h2, packP_next l m j (by omega), List.length_append, (say_length hE).1]
      congr 1
      omega
    · rw [up_texts, ih1, ih2]
      simp only
      rw [h3', List.take_succ_eq_append_getElem (by omega)]

theorem upN_packed (l : List ByteArray) (m : Int) (hl : l.length ≤ 60) : upN (txt (packP l m l.length)) = l.length := by
  obtain ⟨_, _, h3⟩ := num_in (s := txt (packP l m l.length)) (p := 0) (k := 1) rfl (by rw [txt_size (packP l m l.length)]; simp [packP])
  have e3 : numI (txt (packP l m l.length)) 0 0 1 = numN (txt (packP l m l.length)) 0 1 := h3
  have hb : byteI (txt (packP l m l.length)) 0 = l.length := by
    rw [byte_txt _ 0 (by simp [packP])]
    simp [packP]
    omega
  unfold upN
  rw [e3]
  show (256 * 0 + byteI (txt (packP l m l.length)) (0 + 0)).toNat = _
  simp [hb]

/-- Texts that are packed are unpacked. -/
theorem unpack_packed (l : List ByteArray) (m : Int) (hm : 60 ≤ m) (hl : l.length ≤ 60) (hs : ∀ q (h : q < l.length), l[q].size ≤ 60) :
    packE l m = 0 ∧ unpackE (txt (packL l m)) m = 0 ∧ unpackL (txt (packL l m)) m = l := by
  have hok : packOk l m = true := pack_yes (by omega) (fun q h => if_neg (by have := hs q h; omega))
  have hL : packL l m = packP l m l.length := if_pos hok
  obtain ⟨h1, h2⟩ := up_packed l m hm hl hs l.length (Nat.le_refl _)
  have hn := upN_packed l m hl
  have hE : unpackE (txt (packP l m l.length)) m = 0 := by
    unfold unpackE
    rw [hn, h1]
    show doneI (txt (packP l m l.length)) ((packP l m l.length).length : Int) 0 = 0
    rw [← txt_size]
    exact done_in
  refine ⟨if_pos hok, by rw [hL]; exact hE, ?_⟩
  rw [hL]
  unfold unpackL
  rw [if_pos hE, hn, h2, List.take_length]

theorem text_zero {s : ByteArray} {p : Nat} {m : Int} (h : textE s p 0 m = 0) : ∃ k : Nat, byteI s p = k ∧ k ≤ 255 ∧ p + 1 + k ≤ s.size ∧ textP s p 0 m = (p + 1 + k : Nat) ∧ textS s p 0 m = s.extract (p + 1) (p + 1 + k) := by
  by_cases hE : numE s p 0 1 = 0
  · obtain ⟨_, h0, h1, _, h5, hf⟩ := num1_ok hE
    have hb := byte_bounds s p
    simp only [Int.toNat_natCast] at h5
    unfold textE at h
    rw [if_neg (by simp [hE])] at h
    by_cases hm : m < numI s p 0 1
    · rw [if_pos hm] at h; simp at h
    · rw [if_neg hm] at h
      by_cases hl : leftI s ((p : Int) + 1) 0 < numI s p 0 1
      · rw [if_pos hl] at h; simp at h
      · have hlo := left_ok hf
        obtain ⟨k, hk⟩ : ∃ k : Nat, byteI s p = k := ⟨(byteI s p).toNat, by omega⟩
        have hsz : p + 1 + k ≤ s.size := by omega
        obtain ⟨e1, _, e3⟩ := text_in (s := s) (p := p) (n := k) (m := m) hk (by omega) hsz
        exact ⟨k, hk, by omega, hsz, e1, e3⟩
  · unfold textE at h
    rw [if_pos hE] at h
    exact absurd h hE

theorem byte_list (s : ByteArray) (i : Nat) (h : i < s.size) : ∃ b : UInt8, s.data.toList[i]? = some b ∧ byteI s i = (b.toNat : Int) := by
  refine ⟨s[i]'h, ?_, by unfold byteI; rw [dif_pos h]⟩
  rw [List.getElem?_eq_getElem (by rw [size_list]; exact h)]
  simp
  rfl

theorem unpack_good {s : ByteArray} {m : Int} (h : unpackE s m = 0) : ∀ j, j ≤ upN s → (upS s m j).2 = 0 := by
  intro j hj
  by_cases hb : (upS s m j).2 = 0
  · exact hb
  · have e := up_end hb hj
    unfold unpackE at h
    rw [e] at h
    by_cases hf : faultI s (upS s m j).1 (upS s m j).2 = 0
    · exact (fault_zero hf).1
    · rw [done_no hf] at h; exact absurd h hf

theorem unpack_bytes {s : ByteArray} {m : Int} (h : unpackE s m = 0) : ∀ j, j ≤ upN s → ∃ P : Nat, (upS s m j).1 = P ∧ P ≤ s.size ∧
    s.data.toList.take P = UInt8.ofNat (upN s) :: (upT s m j).flatMap (fun t => UInt8.ofNat t.size :: t.data.toList) ∧ ∀ t ∈ upT s m j, t.size ≤ 255
  | 0, _ => by
    have h0 : numE s 0 0 1 = 0 := unpack_good h 0 (by omega)
    obtain ⟨_, _, h1, h4, h5, _⟩ := num1_ok h0
    obtain ⟨b, hb1, hb2⟩ := byte_list s 0 (by omega)
    have hn : upN s = b.toNat := by
      unfold upN
      rw [h5]
      simp only [Int.toNat_zero]
      rw [hb2]
      simp
    refine ⟨1, h4, by omega, ?_, by simp [upT]⟩
    rw [hn]
    simp only [upT, List.flatMap_nil]
    cases hL : s.data.toList with
    | nil => rw [hL] at hb1; simp at hb1
    | cons x r =>
      rw [hL] at hb1
      simp at hb1
      subst hb1
      simp
  | j + 1, hj => by
    obtain ⟨P, hP1, hP2, hP3, hP4⟩ := unpack_bytes h j (by omega)
    have hz := unpack_good h (j + 1) hj
    have hb0 := unpack_good h j (by omega)
    rw [up_step, hP1, hb0] at hz
    simp only at hz
    obtain ⟨k, hk, hk2, hk3, hk4, hk5⟩ := text_zero hz
    obtain ⟨b, hb1, hb2⟩ := byte_list s P (by omega)
    have hbk : b = UInt8.ofNat k := by
      have : b.toNat = k := by omega
      rw [← this]
      simp
    have hts : (s.extract (P + 1) (P + 1 + k)).size = k := by simp; omega
    have htd : (s.extract (P + 1) (P + 1 + k)).data.toList = (s.data.toList.drop (P + 1)).take k := by
      have e := extract_txt s.data.toList (P + 1) (P + 1 + k)
      rw [txt_data] at e
      rw [e]
      simp
    refine ⟨P + 1 + k, by rw [up_step, hP1, hb0]; exact hk4, hk3, ?_, ?_⟩
    · rw [up_texts, hP1, hb0, List.flatMap_append, List.flatMap_cons, List.flatMap_nil, List.append_nil]
      rw [hk5, hts, htd, ← List.cons_append, ← hP3]
      rw [show P + 1 + k = P + (1 + k) by omega, List.take_add]
      congr 1
      have hlt : P < s.data.toList.length := by rw [size_list]; omega
      rw [List.drop_eq_getElem_cons hlt, show 1 + k = k + 1 by omega, List.take_succ_cons]
      congr 1
      rw [List.getElem?_eq_getElem hlt] at hb1
      simp only [Option.some.injEq] at hb1
      rw [hb1, hbk]
    · intro t ht
      rw [up_texts, List.mem_append] at ht
      rcases ht with ht | ht
      · exact hP4 t ht
      · rw [hP1, hb0] at ht
        simp only [List.mem_singleton] at ht
        rw [ht, hk5, hts]
        exact hk2

/-- Bytes that are unpacked are packed as they were. -/
theorem pack_unpacked (s : ByteArray) (h : unpackE s 255 = 0) : packE (unpackL s 255) 255 = 0 ∧ txt (packL (unpackL s 255) 255) = s := by
  obtain ⟨P, hP1, hP2, hP3, hP4⟩ := unpack_bytes h (upN s) (Nat.le_refl _)
  have hb0 := unpack_good h (upN s) (Nat.le_refl _)
  have hPs : P = s.size := by
    have h' := h
    unfold unpackE at h'
    rw [hP1, hb0] at h'
    by_cases hlt : (P : Int) < s.size
    · rw [done_form (fault_in (by omega) (by omega)) hlt] at h'; simp at h'
    · omega
  have hL : unpackL s 255 = upT s 255 (upN s) := if_pos h
  have hlen : (upT s 255 (upN s)).length = upN s := upT_length _ _ _
  have hn := (upN_le s).1
  have hsay : ∀ t ∈ upT s 255 (upN s), sayE t 255 = 0 := fun t ht => if_neg (by have := hP4 t ht; omega)
  have hok : packOk (upT s 255 (upN s)) 255 = true := pack_yes (by omega) (fun q h => hsay _ (List.getElem_mem h))
  rw [hL]
  refine ⟨if_pos hok, ?_⟩
  rw [show packL (upT s 255 (upN s)) 255 = packP (upT s 255 (upN s)) 255 (upT s 255 (upN s)).length from if_pos hok]
  unfold packP
  rw [List.take_length, hlen]
  have e : (upT s 255 (upN s)).flatMap (fun t => sayL t 255) = (upT s 255 (upN s)).flatMap (fun t => UInt8.ofNat t.size :: t.data.toList) := by
    rw [List.flatMap_def, List.flatMap_def]
    congr 1
    exact List.map_congr_left fun t ht => if_pos (hsay t ht)
  rw [e, ← hP3, hPs, List.take_of_length_le (by rw [size_list]; exact Nat.le_refl _), txt_data]

end Go.Proofs.Ytfkfnhehbhebeaa
