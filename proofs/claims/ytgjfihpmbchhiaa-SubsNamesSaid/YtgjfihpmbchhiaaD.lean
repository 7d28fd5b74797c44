/- A name's state; a right program's answers, each once. -/
import Derived.Test.YtgjfihpmbchhiaaC
namespace Go.Proofs.Ytgjfihpmbchhiaa
set_option linter.unusedSimpArgs false
set_option linter.unusedVariables false
open Go.RowKit

/-- The first state with a name. -/
def ofR (name : ByteArray) : List Int → Int × Int
  | [] => (0, 11)
  | s :: r => if ((nameB s).toList == name.toList) = true then (s, 0) else ofR name r

theorem st_in : ∀ s ∈ stAll, (0 : Int) ≤ s ∧ s ≤ 15 := by decide

set_option maxRecDepth 100000 in
set_option maxHeartbeats 8000000 in
theorem of_any (w : World) (name : ByteArray) : Calls Try.prog 11 #[.string name] w fun e w' => e = .returned (.tuple #[.int .i64 (ofR name stAll).1, .int .i64 (ofR name stAll).2]) ∧ Ext w w' := by
  go_enter Try.func11, Try.ntmps11
  go_wp2_with fail
  refine (states_any _).mono ?_
  rintro e w1 ⟨a, c, rfl, ha, x0⟩
  have HA := Lib.hid ha
  clear ha
  have hl9 : stAll.length = 9 := rfl
  rw [hl9]
  go_wp2_with fail
  go_loopw [8] (fun i wr => ∃ j : Nat, i = .int .i64 j ∧ j ≤ 9 ∧ ofR name stAll = ofR name (stAll.drop j) ∧ Ext w1 wr) (fun i _ => 9 - (intOf i).toNat)
  case atStart => exact ⟨0, rfl, by omega, rfl, Ext.refl _⟩
  case round =>
    obtain ⟨j, rfl, hj, ho, hx⟩ := hrel
    by_cases hlt : j < 9
    · have hlt2 : (j : Int) < 9 := by omega
      have hlt3 : j < stAll.length := by omega
      obtain ⟨g, o, rfl, hc⟩ := (HA.out.ext hx).get hlt3
      have hin := st_in stAll[j] (List.getElem_mem hlt3)
      have hd := List.drop_eq_getElem_cons hlt3
      rw [hd] at ho
      generalize stAll[j] = s at *
      have HO := Lib.hid ho
      clear ho hd hl9
      by_cases hq : ((nameB s).toList == name.toList) = true
      · have HR := Lib.hid (show ofR name stAll = (s, 0) by rw [HO.out]; exact if_pos hq)
        go_wp2_with fail
        refine (name_any _ s hin.1 hin.2).mono ?_
        rintro e w2 ⟨rfl, rfl⟩
        go_wp2_with fail
        refine bodyPost_ret (v := .tuple #[.int .i64 s, .int .i64 0]) (by simp [results, Try.results11, go_sem]) rfl ⟨by rw [HR.out], x0.trans hx⟩
      · have hq : ((nameB s).toList == name.toList) = false := by simpa using hq
        have HR := Lib.hid (show ofR name stAll = ofR name (stAll.drop (j + 1)) by rw [HO.out]; exact if_neg (by rw [hq]; simp))
        go_wp2_with fail
        refine (name_any _ s hin.1 hin.2).mono ?_
        rintro e w2 ⟨rfl, rfl⟩
        go_wp2_with fail
        exact ⟨⟨j + 1, rfl, by omega, HR.out, hx⟩, by simp [intOf]; omega⟩
    · have hlt2 : ¬ (j : Int) < 9 := by omega
      obtain rfl : j = 9 := by omega
      have HR := Lib.hid (show ofR name stAll = (0, 11) by rw [ho]; rfl)
      clear ho
      go_wp2_with fail
      refine bodyPost_ret (v := .tuple #[.int .i64 0, .int .i64 11]) (by simp [results, Try.results11, go_sem]) rfl ⟨by rw [HR.out], x0.trans hx⟩

theorem nine_ints (w : World) : IntsAt (w.alloc (.cells #[.int .i64 0, .int .i64 1, .int .i64 2, .int .i64 3, .int .i64 4, .int .i64 6, .int .i64 8, .int .i64 9, .int .i64 12] 3)) (some ⟨w.heap.size, 0, none⟩) stAll := by
  refine .inr ⟨_, 0, rfl, fun j hj => ?_⟩
  have hj' : j < 9 := hj
  rcases (by omega : j = 0 ∨ j = 1 ∨ j = 2 ∨ j = 3 ∨ j = 4 ∨ j = 5 ∨ j = 6 ∨ j = 7 ∨ j = 8) with rfl | rfl | rfl | rfl | rfl | rfl | rfl | rfl | rfl <;> simp [stAll]

set_option maxRecDepth 100000 in
set_option maxHeartbeats 20000000 in
theorem awake_any (w : World) : Calls Try.prog 5 #[] w fun e w' => e = .returned (.bool true) ∧ Ext w w' := by
  go_enter Try.func5, Try.ntmps5
  go_wp2_with fail
  refine (out_any _ 0 7 (by decide) (by decide) (by decide)).mono ?_
  rintro e w0 ⟨rfl, rfl⟩
  rw [show outI 0 7 = 4 from rfl, show outB 0 7 = true from rfl]
  go_wp2_with fail
  refine (in_any _ 4 8 (by decide) (by decide) (by decide)).mono ?_
  rintro e w1 ⟨rfl, rfl⟩
  rw [show inI 4 8 = 1 from rfl, show inB' 4 8 = true from rfl]
  go_wp2_with fail
  refine (in_any _ 1 7 (by decide) (by decide) (by decide)).mono ?_
  rintro e w2 ⟨rfl, rfl⟩
  rw [show inI 1 7 = 9 from rfl, show inB' 1 7 = true from rfl]
  go_wp2_with fail
  refine (out_any _ 9 8 (by decide) (by decide) (by decide)).mono ?_
  rintro e w3 ⟨rfl, rfl⟩
  rw [show outI 9 8 = 3 from rfl, show outB 9 8 = true from rfl]
  go_wp2_with fail
  refine (out_any _ 3 10 (by decide) (by decide) (by decide)).mono ?_
  rintro e w4 ⟨rfl, rfl⟩
  rw [show outI 3 10 = 2 from rfl, show outB 3 10 = true from rfl]
  go_wp2_with fail
  refine (out_any _ 3 8 (by decide) (by decide) (by decide)).mono ?_
  rintro e w5 ⟨rfl, rfl⟩
  rw [show outI 3 8 = 3 from rfl, show outB 3 8 = false from rfl]
  go_wp2_with fail
  refine (of_any _ { data := #[116, 111, 43, 119, 97, 105, 116] }).mono ?_
  rintro e u1 ⟨rfl, x1⟩
  rw [show (ofR { data := #[116, 111, 43, 119, 97, 105, 116] } stAll) = (9, 0) from by kernel_rfl]
  have x0 := x1
  clear x1
  go_wp2_with fail
  refine (of_any _ { data := #[116, 119, 111] }).mono ?_
  rintro e u2 ⟨rfl, x1⟩
  rw [show (ofR { data := #[116, 119, 111] } stAll) = (0, 11) from by kernel_rfl]
  have x0 := x0.trans x1
  clear x1
  go_wp2_with fail
  refine (name_any _ 6 (by decide) (by decide)).mono ?_
  rintro e u3 ⟨rfl, rfl⟩
  rw [show nameB 6 = { data := #[102, 114, 111, 109, 43, 97, 115, 107] } from rfl]
  go_wp2_with fail
  refine (name_any _ 5 (by decide) (by decide)).mono ?_
  rintro e u4 ⟨rfl, rfl⟩
  rw [show nameB 5 = { data := #[] } from rfl]
  go_wp2_with fail
  refine (states_any _).mono ?_
  rintro e u5 ⟨a, c, rfl, ha, x1⟩
  have x0 := x0.trans x1
  have HA := Lib.hid ha
  clear x1 ha
  go_wp2_with fail
  refine (same_any _ a _ c 9 stAll (Lib.hid (HA.out.ext (Ext.alloc u5 _))) (Lib.hid (nine_ints u5)) (by decide)).mono ?_
  rintro e u6 ⟨rfl, x1⟩
  have x0 := (x0.al _).trans x1
  clear x1
  go_wp2_with fail
  refine (mirror_any _ 9 (by decide) (by decide)).mono ?_
  rintro e u7 ⟨rfl, rfl⟩
  rw [show mirI 9 = 6 from rfl]
  go_wp2_with fail
  refine (agree_any _ 9 6 (by decide) (by decide) (by decide) (by decide)).mono ?_
  rintro e u8 ⟨rfl, rfl⟩
  rw [show (decide (chk 9 = 0) && (decide (chk 6 = 0) && decide (mirI 9 = 6))) = true from rfl]
  go_wp2_with fail
  refine (agree_any _ 9 9 (by decide) (by decide) (by decide) (by decide)).mono ?_
  rintro e u9 ⟨rfl, rfl⟩
  rw [show (decide (chk 9 = 0) && (decide (chk 9 = 0) && decide (mirI 9 = 9))) = false from rfl]
  go_wp2_with fail
  refine (check_any _ 5 (by decide) (by decide)).mono ?_
  rintro e u10 ⟨rfl, rfl⟩
  rw [show chk 5 = 4 from rfl]
  go_wp2_with fail
  refine (check_16 _).mono ?_
  rintro e u11 ⟨rfl, rfl⟩
  go_wp2_with fail
  go_ret
  exact ⟨rfl, x0⟩

end Go.Proofs.Ytgjfihpmbchhiaa
