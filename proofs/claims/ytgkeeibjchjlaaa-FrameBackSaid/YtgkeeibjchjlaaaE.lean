/- The first frame, as the document says. -/
import Derived.Test.YtgkeeibjchjlaaaD
namespace Go.Proofs.Ytgkeeibjchjlaaa
set_option linter.unusedSimpArgs false
set_option linter.unusedVariables false
open Go.RowKit

theorem index_at (w : World) (s : ByteArray) (i : Nat) (k : Int) (hk : k = i) (h : i < s.size) : (Instr.index 9 (.string s) (.int .i64 k)).run Try.prog w = .ok (.int .u8 (byteI s i)) w := by
  subst hk
  rw [run_index_string w 9 s .i64 _ Try.underlying9, dif_pos (by omega)]
  simp [byteI, h]

set_option maxRecDepth 100000 in
set_option maxHeartbeats 8000000 in
theorem rget_any (w : World) (b : ByteArray) (hs : b.size ≤ 1000000) : Calls Try.prog 9 #[.string b] w fun e w' => e = .returned (.tuple #[.string (getS b), .int .i64 (getN b), .int .i64 (getE b)]) ∧ Ext w w' := by
  by_cases h0 : b.size < 2
  case' pos =>
    have hE : getE b = 3 := if_pos h0
    have HG := Lib.hid (get_no hE (by decide))
    have HE := Lib.hid hE
    have h1 : (b.size : Int) < 2 := by omega
    clear h0 hE
    go_enter Try.func9, Try.ntmps9
    go_wp2_with fail
    refine bodyPost_ret (v := .tuple #[.string { data := #[] }, .int .i64 0, .int .i64 3]) (by simp [results, Try.results9, go_sem]) rfl ⟨by rw [HG.out.1, HG.out.2, HE.out], Ext.refl _⟩
  have hn := head_bounds b
  have hy0 := byte_bounds b 0
  have hy1 := byte_bounds b 1
  have hi0 := fun w => index_at w b 0 0 rfl (by omega)
  have hi1' := fun w => index_at w b 1 1 rfl (by omega)
  obtain ⟨n, hnn⟩ : ∃ n, n = headN b := ⟨_, rfl⟩
  have hgetE : getE b = if n = 0 then 4 else if 128 < n then 5 else if (b.size : Int) - 2 < n then 3 else 0 := by rw [hnn]; exact if_neg h0
  have hgs : getE b = 0 → getS b = b.extract 2 (2 + n).toNat ∧ getN b = 2 + n := fun h => by rw [hnn]; exact ⟨if_pos h, if_pos h⟩
  rw [← hnn] at hn
  obtain ⟨hn0, hn1⟩ := hn
  have hb2 : ¬ (b.size : Int) < 2 := by omega
  have hnd : n = 256 * byteI b 0 + byteI b 1 := hnn
  have hm1 : IntKind.i64.wrap (256 * byteI b 0) = 256 * byteI b 0 := IntWalk.i64_in _ (by omega)
  have hm2 : IntKind.i64.wrap (256 * byteI b 0 + byteI b 1) = n := by rw [hnd]; exact IntWalk.i64_in _ (by omega)
  have hc0 : IntKind.i64.wrap (byteI b 0) = byteI b 0 := IntWalk.i64_in _ (by omega)
  have hc1 : IntKind.i64.wrap (byteI b 1) = byteI b 1 := IntWalk.i64_in _ (by omega)
  have HND := Lib.hid hnd
  clear h0 hnn hnd
  by_cases c1 : n = 0
  case' pos =>
    have hE : getE b = 4 := by rw [hgetE, if_pos c1]
    have HG := Lib.hid (get_no hE (by decide))
    have HV := Lib.hid (And.intro HG.out.1 (And.intro HG.out.2 hE))
    have hq : (n == 0) = true := by simpa using c1
    clear c1 hE hgetE hgs HG
  case' neg =>
    have hq : (n == 0) = false := by simpa using c1
    by_cases c2 : 128 < n
    case' pos =>
      have hE : getE b = 5 := by rw [hgetE, if_neg c1, if_pos c2]
      have HG := Lib.hid (get_no hE (by decide))
      have HV := Lib.hid (And.intro HG.out.1 (And.intro HG.out.2 hE))
      clear c1 hE hgetE hgs HG
    case' neg =>
      by_cases c3 : (b.size : Int) - 2 < n
      case' pos =>
        have hE : getE b = 3 := by rw [hgetE, if_neg c1, if_neg c2, if_pos c3]
        have HG := Lib.hid (get_no hE (by decide))
        have HV := Lib.hid (And.intro HG.out.1 (And.intro HG.out.2 hE))
        clear c1 hE hgetE hgs HG
      case' neg =>
        have hE : getE b = 0 := by rw [hgetE, if_neg c1, if_neg c2, if_neg c3]
        have HV := Lib.hid (And.intro (hgs hE).1 (And.intro (hgs hE).2 hE))
        have hi1 : (2 : Int) ≤ 2 + n := by omega
        have hi2 : 2 + n ≤ b.size := by omega
        clear c1 hE hgetE hgs
  all_goals
    go_enter Try.func9, Try.ntmps9
    go_wp2_with fail
    refine region_held none [(0, true), (1, true), (2, true), (3, true), (4, true), (5, true), (6, true), (7, true)] [8] (by kernel_rfl) (by kernel_rfl) (fun _ _ d _ _ h => by cases d <;> exact h) (fun W hW => ?_)
    simp only [pick, pickF, List.getElem?_cons_zero, List.getElem?_cons_succ]
    have x0 : Ext w W := hW ▸ Ext.drew _
    clear hW
    have hgr := Gr.refl none W
    iterate 8
      refine held_yes hgr _ rfl (fun w1 hw1 => by unfold Oper.quietAt; go_simp; rfl) ?_
      simp only [Act.put, List.setIfInBounds_toArray, List.set_cons_zero, List.set_cons_succ]
    refine held_nil ?_
    clear hi0 hi1' hm1 hm2 hc0 hc1 hy0 hy1
    go_wp2_with fail
    refine bodyPost_ret (v := .tuple #[.string (getS b), .int .i64 (getN b), .int .i64 (getE b)]) ?_ rfl ⟨rfl, x0⟩
    rw [HV.out.1, HV.out.2.1, HV.out.2.2]
    simp [results, Try.results9, go_sem]


end Go.Proofs.Ytgkeeibjchjlaaa
