/- Texts that are packed are unpacked, and back: the walk. -/
import Derived.Test.YtfkfnhehbhebeaaLaw
namespace Go.Proofs.Ytfkfnhehbhebeaa
set_option linter.unusedSimpArgs false
set_option linter.unusedVariables false
open Go.RowKit

set_option maxRecDepth 100000 in
set_option maxHeartbeats 20000000 in
theorem unpacks_walk (w : World) (a : Option Addr) (c : Nat) (l : List ByteArray) (s : ByteArray) (hA : Hid (TextsAt w a l)) :
    Calls Try.prog 7 #[.slice a l.length c, .string s] w fun e w' => e = .returned (.bool true) ∧ Ext w w' := by
  by_cases hl : (60 : Int) < l.length
  case' pos =>
    go_enter Try.func7, Try.ntmps7
    go_wp2_with fail
    refine (awake_any _).mono ?_
    rintro e w1 ⟨rfl, x1⟩
    go_wp2_with fail
    go_ret
    exact ⟨rfl, x1⟩
  by_cases hl2 : (300 : Int) < s.size
  case' pos =>
    go_enter Try.func7, Try.ntmps7
    go_wp2_with fail
    refine (awake_any _).mono ?_
    rintro e w1 ⟨rfl, x1⟩
    go_wp2_with fail
    go_ret
    exact ⟨rfl, x1⟩
  have hs : s.size ≤ 1000000 := by omega
  go_enter Try.func7, Try.ntmps7
  go_wp2_with fail
  go_loopw [5] (fun i wr => ∃ j : Nat, i = .int .i64 j ∧ j ≤ l.length ∧ (∀ q (h : q < l.length), q < j → l[q].size ≤ 60) ∧ Ext w wr) (fun i _ => l.length - (intOf i).toNat)
  case atStart => exact ⟨0, rfl, by omega, fun q h h0 => by omega, Ext.refl w⟩
  case round =>
    obtain ⟨j, rfl, hj, hq, hx⟩ := hrel
    by_cases hlt : j < l.length
    · have hlt2 : (j : Int) < l.length := by omega
      obtain ⟨g, o, rfl, hc⟩ := (hA.out.ext hx).get hlt
      have HX := Lib.hid (show l[j].size ≤ 60 → ∀ q (h : q < l.length), q < j + 1 → l[q].size ≤ 60 from fun h0 q h hq1 => by
        by_cases hqj : q < j
        · exact hq q h hqj
        · obtain rfl : q = j := by omega
          exact h0)
      obtain ⟨t, ht⟩ : ∃ t, t = l[j] := ⟨_, rfl⟩
      rw [← ht] at hc
      have HT := Lib.hid ht
      clear ht hq
      by_cases h1 : (60 : Int) < t.size
      case' pos =>
        go_wp2_with fail
        refine (awake_any _).mono ?_
        rintro e w1 ⟨rfl, x1⟩
        go_wp2_with fail
        go_ret
        exact ⟨rfl, hx.trans x1⟩
      go_wp2_with fail
      exact ⟨⟨j + 1, rfl, by omega, HX.out (by rw [← HT.out]; omega), hx⟩, by simp [intOf]; omega⟩
    · have hlt2 : ¬ (j : Int) < l.length := by omega
      have hall : ∀ q (h : q < l.length), l[q].size ≤ 60 := fun q h => hq q h (by omega)
      have hall1 : ∀ t ∈ l, t.size ≤ 1000000 := fun t ht => by
        obtain ⟨q, hq1, rfl⟩ := List.getElem_of_mem ht
        have := hall q hq1
        omega
      obtain ⟨e1, e2, e3⟩ := unpack_packed l 60 (by decide) (by omega) hall
      have HE := Lib.hid (And.intro e1 (And.intro e2 e3))
      have HA := Lib.hid (hA.out.ext hx)
      have HALL := Lib.hid hall1
      have hpl : (txt (packL l 60)).size ≤ 1000000 := by
        have h1 := packP_length l 60 l.length (Nat.le_refl _) (fun q h _ => if_neg (by have := hall q h; omega))
        rw [txt_size]
        unfold packL
        split
        · omega
        · simp
      have hu : ∀ t ∈ unpackL s 255, t.size ≤ 1000000 := by
        intro t ht
        by_cases hg : unpackE s 255 = 0
        · obtain ⟨_, _, _, _, h4⟩ := unpack_bytes hg (upN s) (Nat.le_refl _)
          rw [show unpackL s 255 = upT s 255 (upN s) from if_pos hg] at ht
          have := h4 t ht
          omega
        · rw [show unpackL s 255 = [] from if_neg hg] at ht
          cases ht
      have HU := Lib.hid hu
      have HP := Lib.hid hpl
      clear hq hall hall1 e1 e2 e3 hu hpl
      go_wp2_with fail
      refine (pack_any _ a c l 60 HA HALL.out).mono ?_
      rintro e w1 ⟨v6, rfl, b6, x1⟩
      rw [HE.out.1]
      have k1 := b6.back
      have HA := Lib.hid (HA.out.ext x1)
      have hx := hx.trans x1
      clear b6 x1
      go_wp2_with fail
      refine (unpack_any _ (txt (packL l 60)) 60 HP.out).mono ?_
      rintro e w2 ⟨a8, c8, rfl, t8, x1⟩
      rw [HE.out.2.2] at t8
      rw [HE.out.2.1, HE.out.2.2]
      have T8 := Lib.hid t8
      have HA := Lib.hid (HA.out.ext x1)
      have hx := hx.trans x1
      clear t8 x1 k1
      go_wp2_with fail
      refine (unpack_any _ s 255 hs).mono ?_
      rintro e w3 ⟨a10, c10, rfl, t10, x1⟩
      have T10 := Lib.hid t10
      have T8 := Lib.hid (T8.out.ext x1)
      have HA := Lib.hid (HA.out.ext x1)
      have hx := hx.trans x1
      clear t10 x1
      go_wp2_with fail
      refine (pack_any _ a10 c10 (unpackL s 255) 255 T10 HU.out).mono ?_
      rintro e w4 ⟨v12, rfl, b12, x1⟩
      have V12 := Lib.hid b12
      have T8 := Lib.hid (T8.out.ext x1)
      have HA := Lib.hid (HA.out.ext x1)
      have hx := hx.trans x1
      clear b12 x1
      go_wp2_with fail
      refine (same_any _ a8 a c8 c l T8 HA (by omega)).mono ?_
      rintro e w5 ⟨rfl, x1⟩
      have k12 := (V12.out.ext x1).back
      have hx := hx.trans x1
      clear x1
      by_cases hg : unpackE s 255 = 0
      case' pos =>
        obtain ⟨p1, p2⟩ := pack_unpacked s hg
        rw [show (⟨(packL (unpackL s 255) 255).toArray⟩ : ByteArray) = s from p2] at k12
        rw [hg, p1]
        clear p1 p2 hg
      case' neg =>
        have hne : (unpackE s 255 != 0) = true := by simpa using hg
        clear hg
      all_goals
        go_wp2_with fail
        refine (awake_any _).mono ?_
        rintro e w6 ⟨rfl, x1⟩
        go_wp2_with fail
        go_ret
        exact ⟨rfl, hx.trans x1⟩

end Go.Proofs.Ytfkfnhehbhebeaa
