/- A right program's answers, each once. -/
import Derived.Test.YtgkeeibjchjlaaaM
namespace Go.Proofs.Ytgkeeibjchjlaaa
set_option linter.unusedSimpArgs false
set_option linter.unusedVariables false
open Go.RowKit
theorem aw_a0 : putE { data := #[104, 105] } = 0 := by kernel_rfl
theorem aw_a1 : putS { data := #[104, 105] } = { data := #[0, 2, 104, 105] } := by kernel_rfl
theorem aw_b0 : getE { data := #[0, 2, 104, 105, 33] } = 0 := by kernel_rfl
theorem aw_b1 : getS { data := #[0, 2, 104, 105, 33] } = { data := #[104, 105] } := by kernel_rfl
theorem aw_b2 : getN { data := #[0, 2, 104, 105, 33] } = 4 := by kernel_rfl
theorem aw_c0 : getE { data := #[0, 3, 104, 105] } = 3 := by kernel_rfl
theorem aw_c1 : getS { data := #[0, 3, 104, 105] } = { data := #[] } := by kernel_rfl
theorem aw_c2 : getN { data := #[0, 3, 104, 105] } = 0 := by kernel_rfl
theorem aw_d0 : getE { data := #[0, 0] } = 4 := by kernel_rfl
theorem aw_d1 : getS { data := #[0, 0] } = { data := #[] } := by kernel_rfl
theorem aw_d2 : getN { data := #[0, 0] } = 0 := by kernel_rfl
theorem aw_e0 : getE { data := #[0, 129] } = 5 := by kernel_rfl
theorem aw_e1 : getS { data := #[0, 129] } = { data := #[] } := by kernel_rfl
theorem aw_e2 : getN { data := #[0, 129] } = 0 := by kernel_rfl
theorem aw_f0 : putE { data := #[] } = 4 := by kernel_rfl
theorem aw_f1 : putS { data := #[] } = { data := #[] } := by kernel_rfl
theorem aw_g0 : allE { data := #[0, 1, 97, 0, 1, 98] } = 0 := by kernel_rfl
theorem aw_g1 : allT { data := #[0, 1, 97, 0, 1, 98] } = [{ data := #[97] }, { data := #[98] }] := by kernel_rfl
theorem aw_h0 : joinE [{ data := #[97] }, { data := #[98] }] = 0 := by kernel_rfl
theorem aw_h1 : joinS [{ data := #[97] }, { data := #[98] }] = { data := #[0, 1, 97, 0, 1, 98] } := by kernel_rfl
theorem aw_i0 : sizeI { data := #[104, 105] } = 4 := by kernel_rfl
theorem aw_j0 : countN { data := #[0, 1, 97, 0, 1, 98, 0] } = 2 := by kernel_rfl
theorem aw_k0 : fitR [{ data := #[97] }, { data := #[98, 99] }, { data := #[100] }] 7 = 2 := by kernel_rfl

theorem two_texts (w : World) (a b : ByteArray) : TextsAt (w.alloc (.cells #[.string a, .string b] 9)) (some ⟨w.heap.size, 0, none⟩) [a, b] := by
  refine .inr ⟨_, 0, rfl, fun j hj => ?_⟩
  match j, hj with
  | 0, _ => simp
  | 1, _ => simp
theorem three_texts (w : World) (a b c : ByteArray) : TextsAt (w.alloc (.cells #[.string a, .string b, .string c] 9)) (some ⟨w.heap.size, 0, none⟩) [a, b, c] := by
  refine .inr ⟨_, 0, rfl, fun j hj => ?_⟩
  match j, hj with
  | 0, _ => simp
  | 1, _ => simp
  | 2, _ => simp

set_option maxRecDepth 100000 in
set_option maxHeartbeats 20000000 in
theorem awake_any (w : World) : Calls Try.prog 7 #[] w fun e w' => e = .returned (.bool true) ∧ Ext w w' := by
  go_enter Try.func7, Try.ntmps7
  go_wp2_with fail
  refine (put_any _ { data := #[104, 105] }).mono ?_
  rintro e w1 ⟨rfl, x0⟩
  rw [aw_a0, aw_a1]
  go_wp2_with fail
  refine (get_any _ { data := #[0, 2, 104, 105, 33] } (by decide)).mono ?_
  rintro e w2 ⟨rfl, x1⟩
  rw [aw_b0, aw_b1, aw_b2]
  have x0 := x0.trans x1
  clear x1
  go_wp2_with fail
  refine (get_any _ { data := #[0, 3, 104, 105] } (by decide)).mono ?_
  rintro e w3 ⟨rfl, x1⟩
  rw [aw_c0, aw_c1, aw_c2]
  have x0 := x0.trans x1
  clear x1
  go_wp2_with fail
  refine (get_any _ { data := #[0, 0] } (by decide)).mono ?_
  rintro e w4 ⟨rfl, x1⟩
  rw [aw_d0, aw_d1, aw_d2]
  have x0 := x0.trans x1
  clear x1
  go_wp2_with fail
  refine (get_any _ { data := #[0, 129] } (by decide)).mono ?_
  rintro e w5 ⟨rfl, x1⟩
  rw [aw_e0, aw_e1, aw_e2]
  have x0 := x0.trans x1
  clear x1
  go_wp2_with fail
  refine (put_any _ { data := #[] }).mono ?_
  rintro e w6 ⟨rfl, x1⟩
  rw [aw_f0, aw_f1]
  have x0 := x0.trans x1
  clear x1
  go_wp2_with fail
  refine (all_any _ { data := #[0, 1, 97, 0, 1, 98] } (by decide)).mono ?_
  rintro e w7 ⟨a17, c17, rfl, t17, x1⟩
  rw [aw_g0, aw_g1]
  rw [aw_g1] at t17
  have T17 := Lib.hid t17
  have x0 := x0.trans x1
  clear x1 t17
  go_wp2_with fail
  have y15 : Ext w7 (w7.alloc (.cells #[.string { data := #[97] }, .string { data := #[98] }] 9)) := Ext.alloc _ _
  have TL : Hid (TextsAt (w7.alloc (.cells #[.string { data := #[97] }, .string { data := #[98] }] 9)) (some ⟨w7.heap.size, 0, none⟩) [{ data := #[97] }, { data := #[98] }]) := Lib.hid (two_texts w7 _ _)
  refine (join_any _ (some ⟨w7.heap.size, 0, none⟩) 2 [{ data := #[97] }, { data := #[98] }] TL (by decide) (by decide)).mono ?_
  rintro e w8 ⟨rfl, x1⟩
  rw [aw_h0, aw_h1]
  have y15 := y15.trans x1
  have T17 := Lib.hid (T17.out.ext y15)
  have x0 := x0.trans y15
  clear x1 y15 TL
  go_wp2_with fail
  have y17 : Ext w8 (w8.alloc (.cells #[.string { data := #[97] }, .string { data := #[98] }] 9)) := Ext.alloc _ _
  have TM : Hid (TextsAt (w8.alloc (.cells #[.string { data := #[97] }, .string { data := #[98] }] 9)) (some ⟨w8.heap.size, 0, none⟩) [{ data := #[97] }, { data := #[98] }]) := Lib.hid (two_texts w8 _ _)
  refine (same_any _ a17 (some ⟨w8.heap.size, 0, none⟩) c17 2 [{ data := #[97] }, { data := #[98] }] (Lib.hid (T17.out.ext y17)) TM (by decide)).mono ?_
  rintro e w9 ⟨rfl, x1⟩
  have x0 := x0.trans (y17.trans x1)
  clear y17 TM x1 T17
  go_wp2_with fail
  refine (size_any _ { data := #[104, 105] } (by decide)).mono ?_
  rintro e w10 ⟨rfl, rfl⟩
  rw [aw_i0]
  go_wp2_with fail
  refine (count_any _ { data := #[0, 1, 97, 0, 1, 98, 0] } (by decide)).mono ?_
  rintro e w11 ⟨rfl, x1⟩
  rw [aw_j0]
  have x0 := x0.trans x1
  clear x1
  go_wp2_with fail
  have y19 : Ext w11 (w11.alloc (.cells #[.string { data := #[97] }, .string { data := #[98, 99] }, .string { data := #[100] }] 9)) := Ext.alloc _ _
  have TN : Hid (TextsAt (w11.alloc (.cells #[.string { data := #[97] }, .string { data := #[98, 99] }, .string { data := #[100] }] 9)) (some ⟨w11.heap.size, 0, none⟩) [{ data := #[97] }, { data := #[98, 99] }, { data := #[100] }]) := Lib.hid (three_texts w11 _ _ _)
  refine (fit_any _ (some ⟨w11.heap.size, 0, none⟩) 3 [{ data := #[97] }, { data := #[98, 99] }, { data := #[100] }] 7 TN (by decide) (by decide) (by decide)).mono ?_
  rintro e w12 ⟨rfl, x1⟩
  rw [aw_k0]
  have x0 := x0.trans (y19.trans x1)
  clear x1 y19 TN
  go_wp2_with fail
  go_ret
  exact ⟨rfl, x0⟩

end Go.Proofs.Ytgkeeibjchjlaaa
