/- Any texts are packed, and any bytes unpacked, as the document says: the walk. -/
import Derived.Test.YtfkfnhehbhebeaaS
namespace Go.Proofs.Ytfkfnhehbhebeaa
set_option linter.unusedSimpArgs false
set_option linter.unusedVariables false
open Go.RowKit

set_option maxRecDepth 100000 in
set_option maxHeartbeats 8000000 in
theorem packs_walk (w : World) (a : Option Addr) (c : Nat) (l : List ByteArray) (s : ByteArray) (m : Int) (hA : Hid (TextsAt w a l)) :
    Calls Try.prog 5 #[.slice a l.length c, .string s, .int .i64 m] w fun e w' => e = .returned (.bool true) ∧ Ext w w' := by
  by_cases hl : (300 : Int) < l.length
  case' pos =>
    go_enter Try.func5, Try.ntmps5
    go_wp2_with fail
    refine (awake_any _).mono ?_
    rintro e w1 ⟨rfl, x1⟩
    go_wp2_with fail
    go_ret
    exact ⟨rfl, x1⟩
  by_cases hl2 : (300 : Int) < s.size
  case' pos =>
    go_enter Try.func5, Try.ntmps5
    go_wp2_with fail
    refine (awake_any _).mono ?_
    rintro e w1 ⟨rfl, x1⟩
    go_wp2_with fail
    go_ret
    exact ⟨rfl, x1⟩
  have hs : s.size ≤ 1000000 := by omega
  go_enter Try.func5, Try.ntmps5
  go_wp2_with fail
  go_loopw [7, 8] (fun t i wr => ∃ (j u : Nat), t = .int .i64 u ∧ i = .int .i64 j ∧ j ≤ l.length ∧ u ≤ 600 ∧ (∀ q (h : q < l.length), q < j → l[q].size ≤ 300) ∧ Ext w wr) (fun _ i _ => l.length - (intOf i).toNat)
  case atStart => exact ⟨0, 0, rfl, rfl, by omega, by omega, fun q h h0 => by omega, Ext.refl w⟩
  case round =>
    obtain ⟨j, u, rfl, rfl, hj, hu, hq, hx⟩ := hrel
    by_cases hlt : j < l.length
    · have hlt2 : (j : Int) < l.length := by omega
      obtain ⟨g, o, rfl, hc⟩ := (hA.out.ext hx).get hlt
      have HX := Lib.hid (show l[j].size ≤ 300 → ∀ q (h : q < l.length), q < j + 1 → l[q].size ≤ 300 from fun h0 q h hq1 => by
        by_cases hqj : q < j
        · exact hq q h hqj
        · obtain rfl : q = j := by omega
          exact h0)
      obtain ⟨t, ht⟩ : ∃ t, t = l[j] := ⟨_, rfl⟩
      rw [← ht] at hc
      have HT := Lib.hid ht
      clear ht hq
      by_cases h1 : (300 : Int) < t.size
      case' pos =>
        go_wp2_with fail
        refine (awake_any _).mono ?_
        rintro e w1 ⟨rfl, x1⟩
        go_wp2_with fail
        go_ret
        exact ⟨rfl, hx.trans x1⟩
      by_cases h2 : (300 : Int) < u
      case' pos =>
        go_wp2_with fail
        refine (awake_any _).mono ?_
        rintro e w1 ⟨rfl, x1⟩
        go_wp2_with fail
        go_ret
        exact ⟨rfl, hx.trans x1⟩
      go_wp2_with fail
      exact ⟨⟨j + 1, u + t.size, by simp, rfl, by omega, by omega, HX.out (by rw [← HT.out]; omega), hx⟩, by simp [intOf]; omega⟩
    · have hlt2 : ¬ (j : Int) < l.length := by omega
      have hjl : j = l.length := by omega
      have hall : ∀ t ∈ l, t.size ≤ 1000000 := fun t ht => by
        obtain ⟨q, hq1, rfl⟩ := List.getElem_of_mem ht
        have := hq q hq1 (by omega)
        omega
      have HA := Lib.hid (hA.out.ext hx)
      have HALL := Lib.hid hall
      clear hq hall
      go_wp2_with fail
      refine (pack_any _ a c l m HA HALL.out).mono ?_
      rintro e w1 ⟨v1, rfl, b1, x1⟩
      have V1 := Lib.hid b1
      have HA := Lib.hid (HA.out.ext x1)
      have hx := hx.trans x1
      clear b1 x1
      go_wp2_with fail
      refine (rpack_any _ a c l m HA HALL.out).mono ?_
      rintro e w2 ⟨v2, rfl, b2, x1⟩
      have V1 := Lib.hid (V1.out.ext x1)
      have V2 := Lib.hid b2
      have hx := hx.trans x1
      clear b2 x1
      go_wp2_with fail
      refine (unpack_any _ s m hs).mono ?_
      rintro e w3 ⟨a3, c3, rfl, t3, x1⟩
      have V1 := Lib.hid (V1.out.ext x1)
      have V2 := Lib.hid (V2.out.ext x1)
      have T3 := Lib.hid t3
      have hx := hx.trans x1
      clear t3 x1
      go_wp2_with fail
      refine (runpack_any _ s m hs).mono ?_
      rintro e w4 ⟨a4, c4, rfl, t4, x1⟩
      have k1 := (V1.out.ext x1).back
      have k2 := (V2.out.ext x1).back
      have T3 := Lib.hid (T3.out.ext x1)
      have T4 := Lib.hid t4
      have hx := hx.trans x1
      clear t4 x1 V1 V2
      go_wp2_with fail
      refine (same_any _ a3 a4 c3 c4 (unpackL s m) T3 T4 ?_).mono ?_
      · unfold unpackL
        split
        · rw [upT_length]; have := (upN_le s).1; omega
        · simp
      rintro e w5 ⟨rfl, x1⟩
      have hx := hx.trans x1
      clear x1 k1 k2
      go_wp2_with fail
      refine (awake_any _).mono ?_
      rintro e w6 ⟨rfl, x1⟩
      go_wp2_with fail
      go_ret
      exact ⟨rfl, hx.trans x1⟩

end Go.Proofs.Ytfkfnhehbhebeaa
