/- A right program's answers, each once. -/
import Derived.Test.YtfkfnhehbhebeaaM
namespace Go.Proofs.Ytfkfnhehbhebeaa
set_option linter.unusedSimpArgs false
set_option linter.unusedVariables false
open Go.RowKit

theorem aw_a0 : layE 258 2 = 0 := by kernel_rfl
theorem aw_a1 : layV 258 2 = [1, 2] := by kernel_rfl
theorem aw_b0 : sayE { data := #[104, 105] } 9 = 0 := by kernel_rfl
theorem aw_b1 : sayL { data := #[104, 105] } 9 = [2, 104, 105] := by kernel_rfl
theorem aw_c0 : numP { data := #[1, 2, 2, 104, 105, 33] } 0 0 2 = 2 := by kernel_rfl
theorem aw_c1 : numE { data := #[1, 2, 2, 104, 105, 33] } 0 0 2 = 0 := by kernel_rfl
theorem aw_c2 : numI { data := #[1, 2, 2, 104, 105, 33] } 0 0 2 = 258 := by kernel_rfl
theorem aw_d0 : textP { data := #[1, 2, 2, 104, 105, 33] } 2 0 9 = 5 := by kernel_rfl
theorem aw_d1 : textE { data := #[1, 2, 2, 104, 105, 33] } 2 0 9 = 0 := by kernel_rfl
theorem aw_d2 : textS { data := #[1, 2, 2, 104, 105, 33] } 2 0 9 = { data := #[104, 105] } := by kernel_rfl
theorem aw_e0 : leftI { data := #[1, 2, 2, 104, 105, 33] } 5 0 = 1 := by kernel_rfl
theorem aw_f0 : restP { data := #[1, 2, 2, 104, 105, 33] } 5 0 = 6 := by kernel_rfl
theorem aw_f1 : faultI { data := #[1, 2, 2, 104, 105, 33] } 5 0 = 0 := by kernel_rfl
theorem aw_f2 : restS { data := #[1, 2, 2, 104, 105, 33] } 5 0 = { data := #[33] } := by kernel_rfl
theorem aw_g0 : layE 256 1 = 8 := by kernel_rfl
theorem aw_h0 : layE 1 3 = 2 := by kernel_rfl
theorem aw_i0 : textP { data := #[3, 97, 98] } 0 0 2 = 0 := by kernel_rfl
theorem aw_i1 : textE { data := #[3, 97, 98] } 0 0 2 = 5 := by kernel_rfl
theorem aw_i2 : textS { data := #[3, 97, 98] } 0 0 2 = { data := #[] } := by kernel_rfl
theorem aw_k0 : unpackL { data := #[2, 1, 97, 0] } 4 = [{ data := #[97] }, { data := #[] }] := by kernel_rfl
theorem aw_k1 : unpackE { data := #[2, 1, 97, 0] } 4 = 0 := by kernel_rfl
theorem aw_l0 : packE [{ data := #[97] }, { data := #[] }] 4 = 0 := by kernel_rfl
theorem aw_l1 : packL [{ data := #[97] }, { data := #[] }] 4 = [2, 1, 97, 0] := by kernel_rfl
theorem aw_m0 : doneI { data := #[1, 2, 2, 104, 105, 33] } 5 0 = 4 := by kernel_rfl

theorem BytesAt.back {w : World} {v : Value} {l : List UInt8} (h : BytesAt w v l) : (convert 46 9 v).run Try.prog w = .ok (.string ⟨l.toArray⟩) w := by
  rcases h with ⟨rfl, rfl⟩ | ⟨g, c, rfl, hc⟩
  · exact run_convert_bytes_nil (P := Try.prog) w 46 5 Try.underlying46 Try.underlying5 0 0 9 Try.underlying9
  · exact run_convert_bytes_back w 46 9 5 ⟨g, 0, none⟩ c l Try.underlying46 Try.underlying5 Try.underlying9 (fun j hj => by rw [add_eq, Nat.zero_add]; exact hc j hj)

theorem two_texts (w : World) (a b : ByteArray) : TextsAt (w.alloc (.cells #[.string a, .string b] 9)) (some ⟨w.heap.size, 0, none⟩) [a, b] := by
  refine .inr ⟨_, 0, rfl, fun j hj => ?_⟩
  match j, hj with
  | 0, _ => simp
  | 1, _ => simp

set_option maxRecDepth 100000 in
set_option maxHeartbeats 20000000 in
theorem awake_any (w : World) : Calls Try.prog 9 #[] w fun e w' => e = .returned (.bool true) ∧ Ext w w' := by
  go_enter Try.func9, Try.ntmps9
  go_wp2_with fail
  refine (lay_any _ 258 2).mono ?_
  rintro e w1 ⟨v1, rfl, b1, x0⟩
  rw [aw_a0]
  rw [aw_a1] at b1
  have V1 := Lib.hid b1
  clear b1
  go_wp2_with fail
  refine (say_any _ { data := #[104, 105] } 9 (by decide)).mono ?_
  rintro e w2 ⟨v3, rfl, b3, x1⟩
  rw [aw_b0]
  rw [aw_b1] at b3
  have V3 := Lib.hid b3
  have V1 := Lib.hid (V1.out.ext x1)
  have x0 := x0.trans x1
  clear b3 x1
  go_wp2_with fail
  refine (open_any _ { data := #[1, 2, 2, 104, 105, 33] }).mono ?_
  rintro e w3 ⟨rfl, x1⟩
  have V1 := Lib.hid (V1.out.ext x1)
  have V3 := Lib.hid (V3.out.ext x1)
  have x0 := x0.trans x1
  clear x1
  go_wp2_with fail
  refine (num_any _ { data := #[1, 2, 2, 104, 105, 33] } 0 0 2 (by decide)).mono ?_
  rintro e w4 ⟨rfl, x1⟩
  rw [aw_c0, aw_c1, aw_c2]
  have V1 := Lib.hid (V1.out.ext x1)
  have V3 := Lib.hid (V3.out.ext x1)
  have x0 := x0.trans x1
  clear x1
  go_wp2_with fail
  have y4 : Ext w4 (w4.alloc (.cells #[.string { data := #[1, 2, 2, 104, 105, 33] }, .int .i64 2, .int .i64 0] 27)) := Ext.alloc _ _
  have B5 : Hid (RBox (w4.alloc (.cells #[.string { data := #[1, 2, 2, 104, 105, 33] }, .int .i64 2, .int .i64 0] 27)) w4.heap.size { data := #[1, 2, 2, 104, 105, 33] } 2 0) := Lib.hid (RBox.new w4 27 { data := #[1, 2, 2, 104, 105, 33] } 2 0)
  refine (text_any _ { data := #[1, 2, 2, 104, 105, 33] } 2 0 9 (by decide)).mono ?_
  rintro e w5 ⟨rfl, x1⟩
  rw [aw_d0, aw_d1, aw_d2]
  have B5 := Lib.hid (B5.out.ext x1)
  have y4 := y4.trans x1
  clear x1
  obtain ⟨c0, c1, c2⟩ := B5.out.cells
  obtain ⟨f0, f1, f2⟩ := B5.out.free
  go_wp2_with fail
  have B5 := Lib.hid (B5.out.put { data := #[1, 2, 2, 104, 105, 33] } 5 0)
  have y4 : Ext w4 (((w5.setCell ⟨w4.heap.size, 0, none⟩ (.string { data := #[1, 2, 2, 104, 105, 33] })).setCell ⟨w4.heap.size, 1, none⟩ (.int .i64 5)).setCell ⟨w4.heap.size, 2, none⟩ (.int .i64 0)) := Ext.set (Ext.set (Ext.set y4 (Nat.le_refl _) _) (Nat.le_refl _) _) (Nat.le_refl _) _
  clear c0 c1 c2 f0 f1 f2
  generalize (((w5.setCell ⟨w4.heap.size, 0, none⟩ (.string { data := #[1, 2, 2, 104, 105, 33] })).setCell ⟨w4.heap.size, 1, none⟩ (.int .i64 5)).setCell ⟨w4.heap.size, 2, none⟩ (.int .i64 0)) = w6 at *
  generalize w4.heap.size = g5 at *
  refine (left_any _ { data := #[1, 2, 2, 104, 105, 33] } 5 0 (by decide)).mono ?_
  rintro e w7 ⟨rfl, x1⟩
  rw [aw_e0]
  have B5 := Lib.hid (B5.out.ext x1)
  have y4 := y4.trans x1
  clear x1
  obtain ⟨c0, c1, c2⟩ := B5.out.cells
  go_wp2_with fail
  clear c0 c1 c2
  refine (rest_any _ { data := #[1, 2, 2, 104, 105, 33] } 5 0 (by decide)).mono ?_
  rintro e w8 ⟨rfl, x1⟩
  rw [aw_f0, aw_f1, aw_f2]
  have B5 := Lib.hid (B5.out.ext x1)
  have y4 := y4.trans x1
  clear x1
  go_wp2_with fail
  have B5 := Lib.hid (B5.out.ext (Ext.alloc _ (.cells #[.string { data := #[1, 2, 2, 104, 105, 33] }, .int .i64 6, .int .i64 0] 27)))
  have y4 := y4.al (.cells #[.string { data := #[1, 2, 2, 104, 105, 33] }, .int .i64 6, .int .i64 0] 27)
  generalize w8.alloc (.cells #[.string { data := #[1, 2, 2, 104, 105, 33] }, .int .i64 6, .int .i64 0] 27) = w9 at *
  refine (lay_any _ 256 1).mono ?_
  rintro e w10 ⟨v11, rfl, b11, x1⟩
  rw [aw_g0]
  have B5 := Lib.hid (B5.out.ext x1)
  have y4 := y4.trans x1
  clear x1 b11
  go_wp2_with fail
  refine (lay_any _ 1 3).mono ?_
  rintro e w11 ⟨v13, rfl, b13, x1⟩
  rw [aw_h0]
  have B5 := Lib.hid (B5.out.ext x1)
  have y4 := y4.trans x1
  clear x1 b13
  go_wp2_with fail
  refine (open_any _ { data := #[3, 97, 98] }).mono ?_
  rintro e w12 ⟨rfl, x1⟩
  have B5 := Lib.hid (B5.out.ext x1)
  have y4 := y4.trans x1
  clear x1
  go_wp2_with fail
  refine (text_any _ { data := #[3, 97, 98] } 0 0 2 (by decide)).mono ?_
  rintro e w13 ⟨rfl, x1⟩
  rw [aw_i0, aw_i1, aw_i2]
  have B5 := Lib.hid (B5.out.ext x1)
  have y4 := y4.trans x1
  clear x1
  go_wp2_with fail
  have B15 := Lib.hid (RBox.new w13 27 { data := #[3, 97, 98] } 0 5)
  have B5 := Lib.hid (B5.out.ext (Ext.alloc _ (.cells #[.string { data := #[3, 97, 98] }, .int .i64 0, .int .i64 5] 27)))
  have y4 := y4.al (.cells #[.string { data := #[3, 97, 98] }, .int .i64 0, .int .i64 5] 27)
  generalize w13.alloc (.cells #[.string { data := #[3, 97, 98] }, .int .i64 0, .int .i64 5] 27) = w14 at *
  generalize w13.heap.size = g15 at *
  refine (unpack_any _ { data := #[2, 1, 97, 0] } 4 (by decide)).mono ?_
  rintro e w15 ⟨a17, c17, rfl, t17, x1⟩
  rw [aw_k0, aw_k1]
  rw [aw_k0] at t17
  have T17 := Lib.hid t17
  have B5 := Lib.hid (B5.out.ext x1)
  have B15 := Lib.hid (B15.out.ext x1)
  have y4 := y4.trans x1
  clear x1 t17
  go_wp2_with fail
  have y15 : Ext w15 (w15.alloc (.cells #[.string { data := #[97] }, .string { data := #[] }] 9)) := Ext.alloc _ _
  have TL : Hid (TextsAt (w15.alloc (.cells #[.string { data := #[97] }, .string { data := #[] }] 9)) (some ⟨w15.heap.size, 0, none⟩) [{ data := #[97] }, { data := #[] }]) := Lib.hid (two_texts w15 _ _)
  refine (pack_any _ (some ⟨w15.heap.size, 0, none⟩) 2 [{ data := #[97] }, { data := #[] }] 4 TL (by decide)).mono ?_
  rintro e w16 ⟨v19, rfl, b19, x1⟩
  rw [aw_l0]
  rw [aw_l1] at b19
  have V19 := Lib.hid b19
  have y15 := y15.trans x1
  have T17 := Lib.hid (T17.out.ext y15)
  have B5 := Lib.hid (B5.out.ext y15)
  have B15 := Lib.hid (B15.out.ext y15)
  have y4 := y4.trans y15
  clear b19 x1 y15
  obtain ⟨c0, c1, c2⟩ := B5.out.cells
  have k1 := (V1.out.ext y4).back
  have k3 := (V3.out.ext y4).back
  go_wp2_with fail
  refine (done_any _ { data := #[1, 2, 2, 104, 105, 33] } 5 0 (by decide)).mono ?_
  rintro e w17 ⟨rfl, x1⟩
  rw [aw_m0]
  have T17 := Lib.hid (T17.out.ext x1)
  have V19 := Lib.hid (V19.out.ext x1)
  have B15 := Lib.hid (B15.out.ext x1)
  have y4 := y4.trans x1
  clear x1 c0 c1 c2 k1 k3
  obtain ⟨d0, d1, d2⟩ := B15.out.cells
  go_wp2_with fail
  have y17 : Ext w17 (w17.alloc (.cells #[.string { data := #[97] }, .string { data := #[] }] 9)) := Ext.alloc _ _
  have TM : Hid (TextsAt (w17.alloc (.cells #[.string { data := #[97] }, .string { data := #[] }] 9)) (some ⟨w17.heap.size, 0, none⟩) [{ data := #[97] }, { data := #[] }]) := Lib.hid (two_texts w17 _ _)
  refine (same_any _ a17 (some ⟨w17.heap.size, 0, none⟩) c17 2 [{ data := #[97] }, { data := #[] }] (Lib.hid (T17.out.ext y17)) TM (by decide)).mono ?_
  rintro e w18 ⟨rfl, x1⟩
  have k19 := (V19.out.ext (y17.trans x1)).back
  have y4 := y4.trans (y17.trans x1)
  clear y17 TM x1 d0 d1 d2
  go_wp2_with fail
  go_ret
  exact ⟨rfl, x0.trans y4⟩

end Go.Proofs.Ytfkfnhehbhebeaa
