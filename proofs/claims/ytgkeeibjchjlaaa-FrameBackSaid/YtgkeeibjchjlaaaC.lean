/- A text's frame. -/
import Derived.Test.YtgkeeibjchjlaaaB
import Derived.Laws.Concat
namespace Go.Proofs.Ytgkeeibjchjlaaa
set_option linter.unusedSimpArgs false
set_option linter.unusedVariables false
open Go.RowKit

/-- A text of these bytes. -/
abbrev txt (l : List UInt8) : ByteArray := ⟨l.toArray⟩


theorem txt_size (l : List UInt8) : (txt l).size = l.length := by simp [ByteArray.size]


theorem byte_txt (l : List UInt8) (i : Nat) (h : i < l.length) : byteI (txt l) i = (l[i].toNat : Int) := by
  unfold byteI
  rw [dif_pos (by rw [txt_size]; exact h)]
  rfl


theorem extract_txt (l : List UInt8) (a b : Nat) : (txt l).extract a b = txt ((l.drop a).take (b - a)) := ByteArray.extract_mk l a b


theorem txt_data (s : ByteArray) : txt s.data.toList = s := by
  cases s
  simp [txt]


theorem digit_num (N K j : Nat) (hj : j + 1 ≤ K) : 256 * (N / 256 ^ (K - j) % 256 ^ j) + digit N (K - 1 - j) = N / 256 ^ (K - (j + 1)) % 256 ^ (j + 1) := by
  obtain ⟨M, hM⟩ : ∃ M, M = N / 256 ^ (K - (j + 1)) := ⟨_, rfl⟩
  have e : N / 256 ^ (K - j) = M / 256 := by
    rw [hM, Nat.div_div_eq_div_mul, ← Nat.pow_succ]
    congr 2
    omega
  have e2 : digit N (K - 1 - j) = M % 256 := by
    unfold digit
    rw [hM, show K - (j + 1) = K - 1 - j by omega]
  rw [e, e2, ← hM, Nat.pow_succ, Nat.mul_comm (256 ^ j) 256, Nat.mod_mul]
  omega


theorem num_laid (l : List UInt8) (p N K : Nat) (h : ∀ i, i < K → byteI (txt l) (p + i) = (digit N (K - 1 - i) : Int)) : ∀ j, j ≤ K → numN (txt l) p j = ((N / 256 ^ (K - j) % 256 ^ j : Nat) : Int)
  | 0, _ => by simp [numN, Nat.mod_one]
  | j + 1, hj => by
    have ih := num_laid l p N K h j (by omega)
    simp only [numN]
    rw [ih, h j (by omega), ← digit_num N K j hj]
    simp


theorem lay_byte (pre post : List UInt8) (N K i : Nat) (hi : i < K) : byteI (txt (pre ++ (layL N K ++ post))) (pre.length + i) = (digit N (K - 1 - i) : Int) := by
  have hd : digit N (K - 1 - i) < 256 := Nat.mod_lt _ (by decide)
  rw [byte_txt _ _ (by simp [layL]; omega)]
  rw [List.getElem_append_right (by omega)]
  simp only [Nat.add_sub_cancel_left]
  rw [List.getElem_append_left (by simp [layL]; exact hi)]
  simp only [layL, List.getElem_map, List.getElem_range, UInt8.toNat_ofNat']
  rw [Nat.mod_eq_of_lt hd]


theorem num_read (pre post : List UInt8) (N K : Nat) : numN (txt (pre ++ (layL N K ++ post))) pre.length K = ((N % 256 ^ K : Nat) : Int) := by
  have h := num_laid (pre ++ (layL N K ++ post)) pre.length N K (fun i hi => lay_byte pre post N K i hi) K (Nat.le_refl _)
  simpa using h


theorem fault_in {s : ByteArray} {p : Int} (h0 : 0 ≤ p) (h1 : p ≤ s.size) : faultI s p 0 = 0 := by
  unfold faultI
  rw [if_neg (by omega)]


theorem num_in {s : ByteArray} {p k : Nat} (hw : wideB k = true) (h : p + k ≤ s.size) : numP s p 0 k = (p + k : Nat) ∧ numE s p 0 k = 0 ∧ numI s p 0 k = numN s p k := by
  have hf : faultI s p 0 = 0 := fault_in (by omega) (by omega)
  have hl := left_ok hf
  have hk : (k : Int) ≤ leftI s p 0 := by omega
  exact ⟨(if_pos ⟨hf, hw, hk⟩).trans (by omega), by unfold numE; rw [if_neg (by simp [hf]), if_neg (by simp [hw]), if_pos hk], (if_pos ⟨hf, hw, hk⟩).trans (by simp)⟩


theorem layL_two (n : Nat) : layL n 2 = [UInt8.ofNat (n / 256 % 256), UInt8.ofNat (n % 256)] := by
  simp [layL, List.range_succ, digit]

/-- A text's frame: the error, the frame, its size. -/
def putE (s : ByteArray) : Int := if s.size = 0 then 4 else if 128 < s.size then 5 else 0
def putS (s : ByteArray) : ByteArray := if putE s = 0 then txt (layL s.size 2) ++ s else { data := #[] }
def sizeI (s : ByteArray) : Int := if putE s = 0 then 2 + s.size else 0

theorem empty_yes {s : ByteArray} (h : s.size = 0) : (s.toList == ([] : List UInt8)) = true := by
  have : s.toList = [] := by rw [ByteArray.toList_eq]; exact List.eq_nil_of_length_eq_zero (by rw [Array.length_toList]; exact h)
  rw [this]; rfl
theorem empty_no {s : ByteArray} (h : ¬ s.size = 0) : (s.toList == ([] : List UInt8)) = false := by
  cases hl : s.toList with
  | nil => rw [ByteArray.toList_eq] at hl; exact absurd (by have := congrArg List.length hl; rw [Array.length_toList] at this; exact this) h
  | cons a r => rfl

theorem put_ok {s : ByteArray} (h : ¬ s.size = 0) (h2 : ¬ 128 < s.size) : putE s = 0 ∧ putS s = txt (layL s.size 2) ++ s ∧ sizeI s = 2 + s.size := by
  have : putE s = 0 := by unfold putE; rw [if_neg h, if_neg h2]
  exact ⟨this, if_pos this, if_pos this⟩
theorem put_empty {s : ByteArray} (h : s.size = 0) : putE s = 4 ∧ putS s = { data := #[] } ∧ sizeI s = 0 := by
  have : putE s = 4 := if_pos h
  exact ⟨this, if_neg (by rw [this]; decide), if_neg (by rw [this]; decide)⟩
theorem put_long {s : ByteArray} (h2 : 128 < s.size) : putE s = 5 ∧ putS s = { data := #[] } ∧ sizeI s = 0 := by
  have : putE s = 5 := by unfold putE; rw [if_neg (by omega), if_pos h2]
  exact ⟨this, if_neg (by rw [this]; decide), if_neg (by rw [this]; decide)⟩

theorem lay_two (n : Nat) (h : n ≤ 128) : layE n 2 = 0 ∧ layV n 2 = layL n 2 := by
  have : layE n 2 = 0 := by
    unfold layE
    rw [if_neg (by decide), if_neg]
    simp only [show (2 : Int).toNat = 2 from rfl]
    omega
  exact ⟨this, if_pos this⟩

set_option maxRecDepth 100000 in
set_option maxHeartbeats 8000000 in
theorem put_any (w : World) (s : ByteArray) : Calls Try.prog 15 #[.string s] w fun e w' => e = .returned (.tuple #[.string (putS s), .int .i64 (putE s)]) ∧ Ext w w' := by
  by_cases h0 : s.size = 0
  case' pos =>
    have HE := Lib.hid (put_empty h0)
    have hq := empty_yes h0
    clear h0
    go_enter Try.func15, Try.ntmps15
    go_wp2_with fail
    refine bodyPost_ret (v := .tuple #[.string { data := #[] }, .int .i64 4]) (by simp [results, Try.results15, go_sem]) rfl ⟨by rw [HE.out.1, HE.out.2.1], Ext.refl _⟩
  by_cases h1 : 128 < s.size
  case' pos =>
    have HE := Lib.hid (put_long h1)
    have hq := empty_no h0
    have h2 : (128 : Int) < s.size := by omega
    clear h0 h1
    go_enter Try.func15, Try.ntmps15
    go_wp2_with fail
    refine bodyPost_ret (v := .tuple #[.string { data := #[] }, .int .i64 5]) (by simp [results, Try.results15, go_sem]) rfl ⟨by rw [HE.out.1, HE.out.2.1], Ext.refl _⟩
  have HE := Lib.hid (put_ok h0 h1)
  have HL := Lib.hid (lay_two s.size (by omega))
  have hq := empty_no h0
  have h2 : ¬ (128 : Int) < s.size := by omega
  have hs : s.size ≤ 128 := by omega
  clear h0 h1
  go_enter Try.func15, Try.ntmps15
  go_wp2_with fail
  refine (lay_any _ s.size 2).mono ?_
  rintro e w1 ⟨v, rfl, b, x⟩
  rw [HL.out.2] at b
  rw [HL.out.1]
  have k := b.back
  obtain ⟨X, hX⟩ : ∃ x : ByteArray, x = ⟨(layL s.size 2).toArray⟩ := ⟨_, rfl⟩
  rw [← hX] at k
  have hXs : X.size = 2 := by rw [hX, layL_two]; rfl
  have HX := Lib.hid hX
  clear hX b
  go_wp2_with fail
  refine bodyPost_ret (v := .tuple #[.string (X ++ s), .int .i64 0]) (by simp [results, Try.results15, go_sem]) rfl ⟨by rw [HE.out.1, HE.out.2.1, HX.out], x⟩

set_option maxRecDepth 100000 in
set_option maxHeartbeats 8000000 in
theorem rput_any (w : World) (s : ByteArray) : Calls Try.prog 16 #[.string s] w fun e w' => e = .returned (.tuple #[.string (putS s), .int .i64 (putE s)]) ∧ Ext w w' := by
  by_cases h0 : s.size = 0
  case' pos =>
    have HE := Lib.hid (put_empty h0)
    have hq := empty_yes h0
    clear h0
    go_enter Try.func16, Try.ntmps16
    go_wp2_with fail
    refine bodyPost_ret (v := .tuple #[.string { data := #[] }, .int .i64 4]) (by simp [results, Try.results16, go_sem]) rfl ⟨by rw [HE.out.1, HE.out.2.1], Ext.refl _⟩
  by_cases h1 : 128 < s.size
  case' pos =>
    have HE := Lib.hid (put_long h1)
    have hq := empty_no h0
    have h2 : (128 : Int) < s.size := by omega
    clear h0 h1
    go_enter Try.func16, Try.ntmps16
    go_wp2_with fail
    refine bodyPost_ret (v := .tuple #[.string { data := #[] }, .int .i64 5]) (by simp [results, Try.results16, go_sem]) rfl ⟨by rw [HE.out.1, HE.out.2.1], Ext.refl _⟩
  have HE := Lib.hid (put_ok h0 h1)
  have hq := empty_no h0
  have h2 : ¬ (128 : Int) < s.size := by omega
  have hs : s.size ≤ 128 := by omega
  have hd0 : (s.size : Int) / 256 = 0 := by omega
  have hd1 : (s.size : Int) % 256 = s.size := by omega
  have hw8 : IntKind.u8.wrap (s.size : Int) = s.size := by rw [IntKind.wrap_u8]; omega
  have HB : Hid (∀ w : World, BytesAt (w.alloc (.cells #[.int .u8 0, .int .u8 (s.size : Int)] 5)) (.slice (some ⟨w.heap.size, 0, none⟩) 2 2) (layL s.size 2)) := Lib.hid (fun w => by
    rw [layL_two]
    refine .inr ⟨_, 2, rfl, fun j hj => ?_⟩
    have hj' : j < 2 := hj
    rcases (by omega : j = 0 ∨ j = 1) with rfl | rfl
    · simp
      omega
    · simp
      omega)
  clear h0 h1
  have k := fun w : World => (HB.out w).back
  obtain ⟨X, hX⟩ : ∃ x : ByteArray, x = ⟨(layL s.size 2).toArray⟩ := ⟨_, rfl⟩
  rw [← hX] at k
  have hXs : X.size = 2 := by rw [hX, layL_two]; rfl
  have HX := Lib.hid hX
  clear hX
  go_enter Try.func16, Try.ntmps16
  go_wp2_with fail
  refine bodyPost_ret (v := .tuple #[.string (X ++ s), .int .i64 0]) (by simp [results, Try.results16, go_sem]) rfl ⟨by rw [HE.out.1, HE.out.2.1, HX.out], Ext.alloc _ _⟩


end Go.Proofs.Ytgkeeibjchjlaaa
