/- Frames' sizes; the first frame. -/
import Derived.Test.YtgkeeibjchjlaaaC
namespace Go.Proofs.Ytgkeeibjchjlaaa
set_option linter.unusedSimpArgs false
set_option linter.unusedVariables false
open Go.RowKit

theorem txt_app_size (l : List UInt8) (s : ByteArray) : (txt l ++ s).size = l.length + s.size := by
  rw [ByteArray.size_append, txt_size]

theorem put_size (s : ByteArray) : ((putS s).size : Int) = sizeI s := by
  by_cases h0 : s.size = 0
  · rw [(put_empty h0).2.1, (put_empty h0).2.2]; rfl
  · by_cases h1 : 128 < s.size
    · rw [(put_long h1).2.1, (put_long h1).2.2]; rfl
    · rw [(put_ok h0 h1).2.1, (put_ok h0 h1).2.2, txt_app_size, layL_two]
      simp

set_option maxHeartbeats 4000000 in
theorem size_any (w : World) (s : ByteArray) (hs : s.size ≤ 1000000) : Calls Try.prog 17 #[.string s] w fun e w' => e = .returned (.int .i64 (sizeI s)) ∧ w' = w := by
  by_cases h0 : s.size = 0
  case' pos =>
    rw [(put_empty h0).2.2]
    have hq := empty_yes h0
    clear h0
    go_enter Try.func17, Try.ntmps17
    go_wp2_with fail
    go_ret
    exact ⟨rfl, rfl⟩
  by_cases h1 : 128 < s.size
  case' pos =>
    rw [(put_long h1).2.2]
    have hq := empty_no h0
    have h2 : (128 : Int) < s.size := by omega
    clear h0 h1
    go_enter Try.func17, Try.ntmps17
    go_wp2_with fail
    go_ret
    exact ⟨rfl, rfl⟩
  rw [(put_ok h0 h1).2.2]
  have hq := empty_no h0
  have h2 : ¬ (128 : Int) < s.size := by omega
  clear h0 h1
  go_enter Try.func17, Try.ntmps17
  go_wp2_with fail
  go_ret
  exact ⟨rfl, rfl⟩

set_option maxHeartbeats 4000000 in
theorem rsize_any (w : World) (s : ByteArray) : Calls Try.prog 18 #[.string s] w fun e w' => e = .returned (.int .i64 (sizeI s)) ∧ Ext w w' := by
  have HP := Lib.hid (put_size s)
  go_enter Try.func18, Try.ntmps18
  go_wp2_with fail
  refine (rput_any _ s).mono ?_
  rintro e w1 ⟨rfl, x1⟩
  generalize putE s = pe at *
  go_wp2_with fail
  go_ret
  exact ⟨by rw [← HP.out]; rfl, x1⟩

/-- The number that bytes begin with; the first frame: its error, its text, its size. -/
def headN (b : ByteArray) : Int := 256 * byteI b 0 + byteI b 1
def getE (b : ByteArray) : Int := if b.size < 2 then 3 else if headN b = 0 then 4 else if 128 < headN b then 5 else if (b.size : Int) - 2 < headN b then 3 else 0
def getS (b : ByteArray) : ByteArray := if getE b = 0 then b.extract 2 (2 + headN b).toNat else { data := #[] }
def getN (b : ByteArray) : Int := if getE b = 0 then 2 + headN b else 0

theorem get_no {b : ByteArray} {e : Int} (h : getE b = e) (he : ¬ e = 0) : getS b = { data := #[] } ∧ getN b = 0 := ⟨if_neg (by rw [h]; exact he), if_neg (by rw [h]; exact he)⟩

theorem head_num (b : ByteArray) : numN b 0 2 = headN b := by
  show 256 * (256 * 0 + byteI b (0 + 0)) + byteI b (0 + 1) = _
  simp [headN]
theorem head_bounds (b : ByteArray) : 0 ≤ headN b ∧ headN b ≤ 65535 := by
  have h0 := byte_bounds b 0
  have h1 := byte_bounds b 1
  unfold headN
  omega

theorem num_short {b : ByteArray} (h : b.size < 2) : numP b 0 0 2 = 0 ∧ numE b 0 0 2 = 3 ∧ numI b 0 0 2 = 0 := by
  have hf : faultI b 0 0 = 0 := fault_in (by omega) (by omega)
  have hl := left_ok hf
  have hw : wideB 2 = true := rfl
  have hn : ¬ (2 : Int) ≤ leftI b 0 0 := by omega
  exact ⟨if_neg (fun x => hn x.2.2), by unfold numE; rw [if_neg (by simp [hf]), if_neg (by simp [hw]), if_neg hn], if_neg (fun x => hn x.2.2)⟩
theorem num_head {b : ByteArray} (h : ¬ b.size < 2) : numP b 0 0 2 = 2 ∧ numE b 0 0 2 = 0 ∧ numI b 0 0 2 = headN b ∧ leftI b 2 0 = b.size - 2 := by
  obtain ⟨h1, h2, h3⟩ := num_in (s := b) (p := 0) (k := 2) rfl (by omega)
  exact ⟨h1, h2, h3.trans (head_num b), left_ok (fault_in (by omega) (by omega))⟩

set_option maxRecDepth 100000 in
set_option maxHeartbeats 8000000 in
theorem get_any (w : World) (b : ByteArray) (hs : b.size ≤ 1000000) : Calls Try.prog 8 #[.string b] w fun e w' => e = .returned (.tuple #[.string (getS b), .int .i64 (getN b), .int .i64 (getE b)]) ∧ Ext w w' := by
  by_cases h0 : b.size < 2
  case' pos =>
    have hE : getE b = 3 := if_pos h0
    have HG := Lib.hid (get_no hE (by decide))
    have HE := Lib.hid hE
    have HN := Lib.hid (num_short h0)
    clear h0 hE
    go_enter Try.func8, Try.ntmps8
    go_wp2_with fail
    refine (open_any _ b).mono ?_
    rintro e w1 ⟨rfl, x0⟩
    go_wp2_with fail
    refine (num_any _ b 0 0 2 hs).mono ?_
    rintro e w2 ⟨rfl, x1⟩
    rw [HN.out.1, HN.out.2.1, HN.out.2.2]
    have x0 := x0.trans x1
    clear x1
    go_wp2_with fail
    refine region_held none [(0, true), (1, true), (2, false), (3, false)] [4] (by kernel_rfl) (by kernel_rfl) (fun _ _ d _ _ h => by cases d <;> exact h) (fun W hW => ?_)
    simp only [pick, pickF, List.getElem?_cons_zero, List.getElem?_cons_succ]
    have B := Lib.hid ((RBox.new w2 49 b 0 3).ext (Ext.drew _))
    rw [← hW] at B
    have x0 : Ext w W := hW ▸ (x0.al _).dr
    clear hW
    have hgr := Gr.refl none W
    iterate 2
      refine held_yes hgr _ rfl (fun w1 hw1 => by obtain ⟨c0, c1, c2⟩ := B.out.seen hw1; unfold Oper.quietAt; go_simp; rfl) ?_
      simp only [Act.put, List.setIfInBounds_toArray, List.set_cons_zero, List.set_cons_succ]
    iterate 2
      refine held_step rfl (fun K hK => ?_)
      go_simp
      refine hK _ _ hgr ?_
      clear hK K
    refine held_nil ?_
    go_wp2_with fail
    refine bodyPost_ret (v := .tuple #[.string { data := #[] }, .int .i64 0, .int .i64 3]) (by simp [results, Try.results8, go_sem]) rfl ⟨by rw [HG.out.1, HG.out.2, HE.out], x0⟩
  have HN := Lib.hid (num_head h0)
  have hn := head_bounds b
  obtain ⟨n, hnn⟩ : ∃ n, n = headN b := ⟨_, rfl⟩
  have HNN := Lib.hid hnn
  have hgetE : getE b = if n = 0 then 4 else if 128 < n then 5 else if (b.size : Int) - 2 < n then 3 else 0 := by rw [hnn]; exact if_neg h0
  have hgs : getE b = 0 → getS b = b.extract 2 (2 + n).toNat ∧ getN b = 2 + n := fun h => by rw [hnn]; exact ⟨if_pos h, if_pos h⟩
  rw [← hnn] at hn
  obtain ⟨hn0, hn1⟩ := hn
  have hb2 : 2 ≤ b.size := by omega
  clear h0 hnn
  by_cases c1 : n = 0
  case' pos =>
    have hE : getE b = 4 := by rw [hgetE, if_pos c1]
    have HG := Lib.hid (get_no hE (by decide))
    have HE := Lib.hid hE
    have HV := Lib.hid (And.intro HG.out.1 (And.intro HG.out.2 HE.out))
    have hq : (n == 0) = true := by simpa using c1
    clear c1 hE hgetE hgs HG HE
  case' neg =>
    have hq : (n == 0) = false := by simpa using c1
    by_cases c2 : 128 < n
    case' pos =>
      have hE : getE b = 5 := by rw [hgetE, if_neg c1, if_pos c2]
      have HG := Lib.hid (get_no hE (by decide))
      have HV := Lib.hid (And.intro HG.out.1 (And.intro HG.out.2 hE))
      clear c1 hE hgetE hgs HG
    case' neg =>
      by_cases c3 : (b.size : Int) - 2 < n
      case' pos =>
        have hE : getE b = 3 := by rw [hgetE, if_neg c1, if_neg c2, if_pos c3]
        have HG := Lib.hid (get_no hE (by decide))
        have HV := Lib.hid (And.intro HG.out.1 (And.intro HG.out.2 hE))
        clear c1 hE hgetE hgs HG
      case' neg =>
        have hE : getE b = 0 := by rw [hgetE, if_neg c1, if_neg c2, if_neg c3]
        have HV := Lib.hid (And.intro (hgs hE).1 (And.intro (hgs hE).2 hE))
        have hi1 : (2 : Int) ≤ 2 + n := by omega
        have hi2 : 2 + n ≤ b.size := by omega
        clear c1 hE hgetE hgs
  all_goals
    go_enter Try.func8, Try.ntmps8
    go_wp2_with fail
    refine (open_any _ b).mono ?_
    rintro e w1 ⟨rfl, x0⟩
    go_wp2_with fail
    refine (num_any _ b 0 0 2 hs).mono ?_
    rintro e w2 ⟨rfl, x1⟩
    rw [HN.out.1, HN.out.2.1, HN.out.2.2.1, ← HNN.out]
    have x0 := x0.trans x1
    clear x1
    go_wp2_with fail
    have x0 := x0.al (.cells #[.string b, .int .i64 2, .int .i64 0] 49)
    first
    | (refine (left_any _ b 2 0 hs).mono ?_
       rintro e w3 ⟨rfl, x1⟩
       rw [HN.out.2.2.2]
       have x0 := x0.trans x1
       clear x1
       go_wp2_with fail
       refine bodyPost_ret (v := .tuple #[.string (getS b), .int .i64 (getN b), .int .i64 (getE b)]) ?_ rfl ⟨rfl, x0⟩)
    | refine bodyPost_ret (v := .tuple #[.string (getS b), .int .i64 (getN b), .int .i64 (getE b)]) ?_ rfl ⟨rfl, x0⟩
    rw [HV.out.1, HV.out.2.1, HV.out.2.2]
    simp [results, Try.results8, go_sem]


end Go.Proofs.Ytgkeeibjchjlaaa
