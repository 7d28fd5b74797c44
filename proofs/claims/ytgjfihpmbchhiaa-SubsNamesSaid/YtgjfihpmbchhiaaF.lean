/- Each state that may be has a name of its own: the walk. -/
import Derived.Test.YtgjfihpmbchhiaaE
namespace Go.Proofs.Ytgjfihpmbchhiaa
set_option linter.unusedSimpArgs false
set_option linter.unusedVariables false
open Go.RowKit

/-- All that the law asks of a state and of what is said. -/
def asksB (a k : Int) : Bool := decide (k = 7) && decide (andN (outI a k) 4 ≠ 0)
def lawB (a k : Int) : Bool := decide (ofR (nameB a) stAll = (a, 0)) && decide (mirI (mirI a) = a) && decide (outI (outI a k) k = outI a k) && decide (outB (outI a k) k = asksB a k) && decide (inI (inI a k) k = inI a k) && decide (inB' (inI a k) k = false) &&
  decide (chk (outI a k) = 0) && decide (chk (inI a k) = 0) && decide (0 ≤ outI a k) && decide (outI a k ≤ 15) && decide (0 ≤ inI a k) && decide (inI a k ≤ 15) && decide (0 ≤ mirI a) && decide (mirI a ≤ 15)

theorem law_fin : ∀ i : Fin 16, ∀ k : Fin 4, chk (i.val : Int) = 0 → lawB (i.val : Int) (7 + (k.val : Int)) = true := by decide +kernel
theorem name_fin : ∀ i j : Fin 16, chk (i.val : Int) = 0 → i ≠ j → ((nameB (i.val : Int)).toList == (nameB (j.val : Int)).toList) = false := by decide +kernel
theorem bad_fin : ∀ i : Fin 16, ¬ chk (i.val : Int) = 0 → (nameB (i.val : Int)).toList.isEmpty = true := by decide +kernel

theorem law_of {a k : Int} (h0 : 0 ≤ a) (h1 : a ≤ 15) (h7 : 7 ≤ k) (h10 : k ≤ 10) (hc : chk a = 0) : lawB a k = true := by
  have e := law_fin ⟨a.toNat, by omega⟩ ⟨(k - 7).toNat, by omega⟩
  simp only at e
  rw [show ((a.toNat : Nat) : Int) = a by omega, show (7 : Int) + (((k - 7).toNat : Nat) : Int) = k by omega] at e
  exact e hc

theorem name_ne {a b : Int} (h0 : 0 ≤ a) (h1 : a ≤ 15) (h2 : 0 ≤ b) (h3 : b ≤ 15) (hc : chk a = 0) (hab : ¬ a = b) : ((nameB a).toList == (nameB b).toList) = false := by
  have e := name_fin ⟨a.toNat, by omega⟩ ⟨b.toNat, by omega⟩
  simp only at e
  rw [show ((a.toNat : Nat) : Int) = a by omega, show ((b.toNat : Nat) : Int) = b by omega] at e
  exact e hc (fun h => hab (by have := Fin.mk.inj h; omega))

theorem name_bad {a : Int} (h0 : 0 ≤ a) (h1 : a ≤ 15) (hc : ¬ chk a = 0) : (nameB a).toList.isEmpty = true := by
  have e := bad_fin ⟨a.toNat, by omega⟩
  simp only at e
  rw [show ((a.toNat : Nat) : Int) = a by omega] at e
  exact e hc

theorem and_four {x : Int} (h0 : 0 ≤ x) (h1 : x ≤ 15) : bits .and .i64 x 4 = andN x 4 := by
  rcases sixteen h0 h1 with rfl | rfl | rfl | rfl | rfl | rfl | rfl | rfl | rfl | rfl | rfl | rfl | rfl | rfl | rfl | rfl <;> kernel_rfl

set_option maxRecDepth 100000 in
set_option maxHeartbeats 20000000 in
theorem names_walk (w : World) (s o kd : Int) (hs0 : 0 ≤ s) (hs1 : s ≤ 255) (ho0 : 0 ≤ o) (ho1 : o ≤ 255) (hk0 : 0 ≤ kd) (hk1 : kd ≤ 255) : Calls Try.prog 4 #[.int .u8 s, .int .u8 o, .int .u8 kd] w fun e w' => e = .returned (.bool true) ∧ Ext w w' := by
  obtain ⟨a, ha⟩ : ∃ a, a = s % 16 := ⟨_, rfl⟩
  obtain ⟨b, hb⟩ : ∃ b, b = o % 16 := ⟨_, rfl⟩
  obtain ⟨k, hk⟩ : ∃ k, k = 7 + kd % 4 := ⟨_, rfl⟩
  have a0 : 0 ≤ a := by omega
  have a1 : a ≤ 15 := by omega
  have b0 : 0 ≤ b := by omega
  have b1 : b ≤ 15 := by omega
  have h7 : 7 ≤ k := by omega
  have h10 : k ≤ 10 := by omega
  have HKK := Lib.hid (kinds h7 h10)
  have HA := Lib.hid ha
  have HB := Lib.hid hb
  have HK := Lib.hid hk
  clear ha hb hk
  by_cases hc : chk a = 0
  case' neg =>
    have hn : (chk a != 0) = true := by simpa using hc
    have hq := name_bad a0 a1 hc
    clear hc
    go_enter Try.func4, Try.ntmps4
    go_wp2_with fail
    rw [← HA.out]
    refine (check_any _ a a0 a1).mono ?_
    rintro e w1 ⟨rfl, rfl⟩
    go_wp2_with fail
    refine (name_any _ a a0 a1).mono ?_
    rintro e w2 ⟨rfl, rfl⟩
    go_wp2_with fail
    refine (awake_any _).mono ?_
    rintro e w3 ⟨rfl, x1⟩
    go_wp2_with fail
    go_ret
    exact ⟨rfl, x1⟩
  have hlaw := law_of a0 a1 h7 h10 hc
  simp only [lawB, Bool.and_eq_true, decide_eq_true_eq] at hlaw
  obtain ⟨⟨⟨⟨⟨⟨⟨⟨⟨⟨⟨⟨⟨l1, l2⟩, l3⟩, l4⟩, l5⟩, l6⟩, l7⟩, l8⟩, x0⟩, x1⟩, u0⟩, u1⟩, m0⟩, m1⟩ := hlaw
  obtain ⟨ask, has⟩ : ∃ q : Bool, q = asksB a k := ⟨_, rfl⟩
  obtain ⟨x, hx⟩ : ∃ q : Int, q = outI a k := ⟨_, rfl⟩
  obtain ⟨u, hu⟩ : ∃ q : Int, q = inI a k := ⟨_, rfl⟩
  obtain ⟨m, hm⟩ : ∃ q : Int, q = mirI a := ⟨_, rfl⟩
  have has2 : ask = (decide (k = 7) && decide (andN x 4 ≠ 0)) := by rw [has, hx]; rfl
  rw [← hx] at l3 l4 l7 x0 x1
  rw [← hu] at l5 l6 l8 u0 u1
  rw [← hm] at l2 m0 m1
  rw [← has] at l4
  obtain ⟨p1, hp1⟩ : ∃ q : Bool, q = outB a k := ⟨_, rfl⟩
  obtain ⟨p2, hp2⟩ : ∃ q : Bool, q = inB' a k := ⟨_, rfl⟩
  have hand := and_four x0 x1
  obtain ⟨an, han⟩ : ∃ q : Nat, q = andN x 4 := ⟨_, rfl⟩
  rw [← han] at hand has2
  have HC := Lib.hid hc
  have H := Lib.hid (And.intro l1 (And.intro l2 (And.intro l3 (And.intro l4 (And.intro l5 (And.intro l6 (And.intro l7 l8)))))))
  have HX := Lib.hid (And.intro hx (And.intro hu (And.intro hm (And.intro hp1 hp2))))
  have hNE : ¬ a = b → ((nameB a).toList == (nameB b).toList) = false := fun h => name_ne a0 a1 b0 b1 hc h
  have HNE := Lib.hid hNE
  clear hc l1 l2 l3 l4 l5 l6 l7 l8 hx hu hm hp1 hp2 has han hNE
  by_cases hcase : k = 7 ∧ an = 0
  case' pos =>
    have hk7 := hcase.1
    have han := hcase.2
    have hkb : (k == 7) = true := by simpa using hk7
    have hao : ¬ (0 : Int) < (an : Int) := by omega
    have ASE : ask = false := by rw [has2]; simp [han]
    clear han
    clear hcase hk7
    by_cases hab : a = b
    case' pos =>
      have hqb : (a == b) = true := by simpa using hab
      clear hab
      rw [show ask = false from ASE] at H
      have H := Lib.hid H.out
      clear has2 ASE
      go_enter Try.func4, Try.ntmps4
      go_wp2_with fail
      rw [← HA.out, ← HB.out]
      refine (check_any _ a a0 a1).mono ?_
      rintro e w1 ⟨rfl, rfl⟩
      rw [HC.out]
      go_wp2_with fail
      refine (name_any _ a a0 a1).mono ?_
      rintro e w2 ⟨rfl, rfl⟩
      go_wp2_with fail
      refine (of_any _ (nameB a)).mono ?_
      rintro e w3 ⟨rfl, y0⟩
      rw [H.out.1]
      go_wp2_with fail
      rw [← HK.out]
      refine (out_any _ a k a0 a1 HKK.out).mono ?_
      rintro e w4 ⟨rfl, rfl⟩
      rw [← HX.out.1, ← HX.out.2.2.2.1]
      go_wp2_with fail
      refine (out_any _ x k x0 x1 HKK.out).mono ?_
      rintro e w5 ⟨rfl, rfl⟩
      rw [H.out.2.2.1, H.out.2.2.2.1]
      go_wp2_with fail
      refine (in_any _ a k a0 a1 HKK.out).mono ?_
      rintro e w6 ⟨rfl, rfl⟩
      rw [← HX.out.2.1, ← HX.out.2.2.2.2]
      go_wp2_with fail
      refine (in_any _ u k u0 u1 HKK.out).mono ?_
      rintro e w7 ⟨rfl, rfl⟩
      rw [H.out.2.2.2.2.1, H.out.2.2.2.2.2.1]
      go_wp2_with fail
      refine (mirror_any _ a a0 a1).mono ?_
      rintro e w10 ⟨rfl, rfl⟩
      rw [← HX.out.2.2.1]
      go_wp2_with fail
      refine (mirror_any _ m m0 m1).mono ?_
      rintro e w11 ⟨rfl, rfl⟩
      rw [H.out.2.1]
      go_wp2_with fail
      refine (check_any _ x x0 x1).mono ?_
      rintro e w12 ⟨rfl, rfl⟩
      rw [H.out.2.2.2.2.2.2.1]
      go_wp2_with fail
      refine (check_any _ u u0 u1).mono ?_
      rintro e w13 ⟨rfl, rfl⟩
      rw [H.out.2.2.2.2.2.2.2]
      go_wp2_with fail
      refine (awake_any _).mono ?_
      rintro e w14 ⟨rfl, y1⟩
      go_wp2_with fail
      go_ret
      exact ⟨rfl, y0.trans y1⟩
    case' neg =>
      have hqb : (a == b) = false := by simpa using hab
      have HAB := Lib.hid hab
      clear hab
      rw [show ask = false from ASE] at H
      have H := Lib.hid H.out
      clear has2 ASE
      go_enter Try.func4, Try.ntmps4
      go_wp2_with fail
      rw [← HA.out, ← HB.out]
      refine (check_any _ a a0 a1).mono ?_
      rintro e w1 ⟨rfl, rfl⟩
      rw [HC.out]
      go_wp2_with fail
      refine (name_any _ a a0 a1).mono ?_
      rintro e w2 ⟨rfl, rfl⟩
      go_wp2_with fail
      refine (of_any _ (nameB a)).mono ?_
      rintro e w3 ⟨rfl, y0⟩
      rw [H.out.1]
      go_wp2_with fail
      rw [← HK.out]
      refine (out_any _ a k a0 a1 HKK.out).mono ?_
      rintro e w4 ⟨rfl, rfl⟩
      rw [← HX.out.1, ← HX.out.2.2.2.1]
      go_wp2_with fail
      refine (out_any _ x k x0 x1 HKK.out).mono ?_
      rintro e w5 ⟨rfl, rfl⟩
      rw [H.out.2.2.1, H.out.2.2.2.1]
      go_wp2_with fail
      refine (in_any _ a k a0 a1 HKK.out).mono ?_
      rintro e w6 ⟨rfl, rfl⟩
      rw [← HX.out.2.1, ← HX.out.2.2.2.2]
      go_wp2_with fail
      refine (in_any _ u k u0 u1 HKK.out).mono ?_
      rintro e w7 ⟨rfl, rfl⟩
      rw [H.out.2.2.2.2.1, H.out.2.2.2.2.2.1]
      go_wp2_with fail
      refine (name_any _ a a0 a1).mono ?_
      rintro e w8 ⟨rfl, rfl⟩
      go_wp2_with fail
      refine (name_any _ b b0 b1).mono ?_
      rintro e w9 ⟨rfl, rfl⟩
      have hnn := HNE.out HAB.out
      go_wp2_with fail
      refine (mirror_any _ a a0 a1).mono ?_
      rintro e w10 ⟨rfl, rfl⟩
      rw [← HX.out.2.2.1]
      go_wp2_with fail
      refine (mirror_any _ m m0 m1).mono ?_
      rintro e w11 ⟨rfl, rfl⟩
      rw [H.out.2.1]
      go_wp2_with fail
      refine (check_any _ x x0 x1).mono ?_
      rintro e w12 ⟨rfl, rfl⟩
      rw [H.out.2.2.2.2.2.2.1]
      go_wp2_with fail
      refine (check_any _ u u0 u1).mono ?_
      rintro e w13 ⟨rfl, rfl⟩
      rw [H.out.2.2.2.2.2.2.2]
      go_wp2_with fail
      refine (awake_any _).mono ?_
      rintro e w14 ⟨rfl, y1⟩
      go_wp2_with fail
      go_ret
      exact ⟨rfl, y0.trans y1⟩
  have hc_seven0 := hcase
  clear hcase
  by_cases hcase : k = 7 ∧ ¬ an = 0
  case' pos =>
    have hk7 := hcase.1
    have han := hcase.2
    have hkb : (k == 7) = true := by simpa using hk7
    have hao : (0 : Int) < (an : Int) := by omega
    have ASE : ask = true := by rw [has2]; simp [hk7, han]
    clear han
    clear hcase hk7
    by_cases hab : a = b
    case' pos =>
      have hqb : (a == b) = true := by simpa using hab
      clear hab
      rw [show ask = true from ASE] at H
      have H := Lib.hid H.out
      clear has2 ASE
      go_enter Try.func4, Try.ntmps4
      go_wp2_with fail
      rw [← HA.out, ← HB.out]
      refine (check_any _ a a0 a1).mono ?_
      rintro e w1 ⟨rfl, rfl⟩
      rw [HC.out]
      go_wp2_with fail
      refine (name_any _ a a0 a1).mono ?_
      rintro e w2 ⟨rfl, rfl⟩
      go_wp2_with fail
      refine (of_any _ (nameB a)).mono ?_
      rintro e w3 ⟨rfl, y0⟩
      rw [H.out.1]
      go_wp2_with fail
      rw [← HK.out]
      refine (out_any _ a k a0 a1 HKK.out).mono ?_
      rintro e w4 ⟨rfl, rfl⟩
      rw [← HX.out.1, ← HX.out.2.2.2.1]
      go_wp2_with fail
      refine (out_any _ x k x0 x1 HKK.out).mono ?_
      rintro e w5 ⟨rfl, rfl⟩
      rw [H.out.2.2.1, H.out.2.2.2.1]
      go_wp2_with fail
      refine (in_any _ a k a0 a1 HKK.out).mono ?_
      rintro e w6 ⟨rfl, rfl⟩
      rw [← HX.out.2.1, ← HX.out.2.2.2.2]
      go_wp2_with fail
      refine (in_any _ u k u0 u1 HKK.out).mono ?_
      rintro e w7 ⟨rfl, rfl⟩
      rw [H.out.2.2.2.2.1, H.out.2.2.2.2.2.1]
      go_wp2_with fail
      refine (mirror_any _ a a0 a1).mono ?_
      rintro e w10 ⟨rfl, rfl⟩
      rw [← HX.out.2.2.1]
      go_wp2_with fail
      refine (mirror_any _ m m0 m1).mono ?_
      rintro e w11 ⟨rfl, rfl⟩
      rw [H.out.2.1]
      go_wp2_with fail
      refine (check_any _ x x0 x1).mono ?_
      rintro e w12 ⟨rfl, rfl⟩
      rw [H.out.2.2.2.2.2.2.1]
      go_wp2_with fail
      refine (check_any _ u u0 u1).mono ?_
      rintro e w13 ⟨rfl, rfl⟩
      rw [H.out.2.2.2.2.2.2.2]
      go_wp2_with fail
      refine (awake_any _).mono ?_
      rintro e w14 ⟨rfl, y1⟩
      go_wp2_with fail
      go_ret
      exact ⟨rfl, y0.trans y1⟩
    case' neg =>
      have hqb : (a == b) = false := by simpa using hab
      have HAB := Lib.hid hab
      clear hab
      rw [show ask = true from ASE] at H
      have H := Lib.hid H.out
      clear has2 ASE
      go_enter Try.func4, Try.ntmps4
      go_wp2_with fail
      rw [← HA.out, ← HB.out]
      refine (check_any _ a a0 a1).mono ?_
      rintro e w1 ⟨rfl, rfl⟩
      rw [HC.out]
      go_wp2_with fail
      refine (name_any _ a a0 a1).mono ?_
      rintro e w2 ⟨rfl, rfl⟩
      go_wp2_with fail
      refine (of_any _ (nameB a)).mono ?_
      rintro e w3 ⟨rfl, y0⟩
      rw [H.out.1]
      go_wp2_with fail
      rw [← HK.out]
      refine (out_any _ a k a0 a1 HKK.out).mono ?_
      rintro e w4 ⟨rfl, rfl⟩
      rw [← HX.out.1, ← HX.out.2.2.2.1]
      go_wp2_with fail
      refine (out_any _ x k x0 x1 HKK.out).mono ?_
      rintro e w5 ⟨rfl, rfl⟩
      rw [H.out.2.2.1, H.out.2.2.2.1]
      go_wp2_with fail
      refine (in_any _ a k a0 a1 HKK.out).mono ?_
      rintro e w6 ⟨rfl, rfl⟩
      rw [← HX.out.2.1, ← HX.out.2.2.2.2]
      go_wp2_with fail
      refine (in_any _ u k u0 u1 HKK.out).mono ?_
      rintro e w7 ⟨rfl, rfl⟩
      rw [H.out.2.2.2.2.1, H.out.2.2.2.2.2.1]
      go_wp2_with fail
      refine (name_any _ a a0 a1).mono ?_
      rintro e w8 ⟨rfl, rfl⟩
      go_wp2_with fail
      refine (name_any _ b b0 b1).mono ?_
      rintro e w9 ⟨rfl, rfl⟩
      have hnn := HNE.out HAB.out
      go_wp2_with fail
      refine (mirror_any _ a a0 a1).mono ?_
      rintro e w10 ⟨rfl, rfl⟩
      rw [← HX.out.2.2.1]
      go_wp2_with fail
      refine (mirror_any _ m m0 m1).mono ?_
      rintro e w11 ⟨rfl, rfl⟩
      rw [H.out.2.1]
      go_wp2_with fail
      refine (check_any _ x x0 x1).mono ?_
      rintro e w12 ⟨rfl, rfl⟩
      rw [H.out.2.2.2.2.2.2.1]
      go_wp2_with fail
      refine (check_any _ u u0 u1).mono ?_
      rintro e w13 ⟨rfl, rfl⟩
      rw [H.out.2.2.2.2.2.2.2]
      go_wp2_with fail
      refine (awake_any _).mono ?_
      rintro e w14 ⟨rfl, y1⟩
      go_wp2_with fail
      go_ret
      exact ⟨rfl, y0.trans y1⟩
  have hc_seven1 := hcase
  clear hcase
  by_cases hcase : ¬ k = 7
  case' pos =>
    have hk7 := hcase
    have hkb : (k == 7) = false := by simpa using hk7
    have ASE : ask = false := by rw [has2]; simp [hk7]
    clear hcase hk7
    by_cases hab : a = b
    case' pos =>
      have hqb : (a == b) = true := by simpa using hab
      clear hab
      rw [show ask = false from ASE] at H
      have H := Lib.hid H.out
      clear has2 ASE
      go_enter Try.func4, Try.ntmps4
      go_wp2_with fail
      rw [← HA.out, ← HB.out]
      refine (check_any _ a a0 a1).mono ?_
      rintro e w1 ⟨rfl, rfl⟩
      rw [HC.out]
      go_wp2_with fail
      refine (name_any _ a a0 a1).mono ?_
      rintro e w2 ⟨rfl, rfl⟩
      go_wp2_with fail
      refine (of_any _ (nameB a)).mono ?_
      rintro e w3 ⟨rfl, y0⟩
      rw [H.out.1]
      go_wp2_with fail
      rw [← HK.out]
      refine (out_any _ a k a0 a1 HKK.out).mono ?_
      rintro e w4 ⟨rfl, rfl⟩
      rw [← HX.out.1, ← HX.out.2.2.2.1]
      go_wp2_with fail
      refine (out_any _ x k x0 x1 HKK.out).mono ?_
      rintro e w5 ⟨rfl, rfl⟩
      rw [H.out.2.2.1, H.out.2.2.2.1]
      go_wp2_with fail
      refine (in_any _ a k a0 a1 HKK.out).mono ?_
      rintro e w6 ⟨rfl, rfl⟩
      rw [← HX.out.2.1, ← HX.out.2.2.2.2]
      go_wp2_with fail
      refine (in_any _ u k u0 u1 HKK.out).mono ?_
      rintro e w7 ⟨rfl, rfl⟩
      rw [H.out.2.2.2.2.1, H.out.2.2.2.2.2.1]
      go_wp2_with fail
      refine (mirror_any _ a a0 a1).mono ?_
      rintro e w10 ⟨rfl, rfl⟩
      rw [← HX.out.2.2.1]
      go_wp2_with fail
      refine (mirror_any _ m m0 m1).mono ?_
      rintro e w11 ⟨rfl, rfl⟩
      rw [H.out.2.1]
      go_wp2_with fail
      refine (check_any _ x x0 x1).mono ?_
      rintro e w12 ⟨rfl, rfl⟩
      rw [H.out.2.2.2.2.2.2.1]
      go_wp2_with fail
      refine (check_any _ u u0 u1).mono ?_
      rintro e w13 ⟨rfl, rfl⟩
      rw [H.out.2.2.2.2.2.2.2]
      go_wp2_with fail
      refine (awake_any _).mono ?_
      rintro e w14 ⟨rfl, y1⟩
      go_wp2_with fail
      go_ret
      exact ⟨rfl, y0.trans y1⟩
    case' neg =>
      have hqb : (a == b) = false := by simpa using hab
      have HAB := Lib.hid hab
      clear hab
      rw [show ask = false from ASE] at H
      have H := Lib.hid H.out
      clear has2 ASE
      go_enter Try.func4, Try.ntmps4
      go_wp2_with fail
      rw [← HA.out, ← HB.out]
      refine (check_any _ a a0 a1).mono ?_
      rintro e w1 ⟨rfl, rfl⟩
      rw [HC.out]
      go_wp2_with fail
      refine (name_any _ a a0 a1).mono ?_
      rintro e w2 ⟨rfl, rfl⟩
      go_wp2_with fail
      refine (of_any _ (nameB a)).mono ?_
      rintro e w3 ⟨rfl, y0⟩
      rw [H.out.1]
      go_wp2_with fail
      rw [← HK.out]
      refine (out_any _ a k a0 a1 HKK.out).mono ?_
      rintro e w4 ⟨rfl, rfl⟩
      rw [← HX.out.1, ← HX.out.2.2.2.1]
      go_wp2_with fail
      refine (out_any _ x k x0 x1 HKK.out).mono ?_
      rintro e w5 ⟨rfl, rfl⟩
      rw [H.out.2.2.1, H.out.2.2.2.1]
      go_wp2_with fail
      refine (in_any _ a k a0 a1 HKK.out).mono ?_
      rintro e w6 ⟨rfl, rfl⟩
      rw [← HX.out.2.1, ← HX.out.2.2.2.2]
      go_wp2_with fail
      refine (in_any _ u k u0 u1 HKK.out).mono ?_
      rintro e w7 ⟨rfl, rfl⟩
      rw [H.out.2.2.2.2.1, H.out.2.2.2.2.2.1]
      go_wp2_with fail
      refine (name_any _ a a0 a1).mono ?_
      rintro e w8 ⟨rfl, rfl⟩
      go_wp2_with fail
      refine (name_any _ b b0 b1).mono ?_
      rintro e w9 ⟨rfl, rfl⟩
      have hnn := HNE.out HAB.out
      go_wp2_with fail
      refine (mirror_any _ a a0 a1).mono ?_
      rintro e w10 ⟨rfl, rfl⟩
      rw [← HX.out.2.2.1]
      go_wp2_with fail
      refine (mirror_any _ m m0 m1).mono ?_
      rintro e w11 ⟨rfl, rfl⟩
      rw [H.out.2.1]
      go_wp2_with fail
      refine (check_any _ x x0 x1).mono ?_
      rintro e w12 ⟨rfl, rfl⟩
      rw [H.out.2.2.2.2.2.2.1]
      go_wp2_with fail
      refine (check_any _ u u0 u1).mono ?_
      rintro e w13 ⟨rfl, rfl⟩
      rw [H.out.2.2.2.2.2.2.2]
      go_wp2_with fail
      refine (awake_any _).mono ?_
      rintro e w14 ⟨rfl, y1⟩
      go_wp2_with fail
      go_ret
      exact ⟨rfl, y0.trans y1⟩
  exfalso
  rcases Classical.em (k = 7) with h | h
  · rcases Classical.em (an = 0) with h2 | h2
    · exact hc_seven0 ⟨h, h2⟩
    · exact hc_seven1 ⟨h, h2⟩
  · exact hcase h

end Go.Proofs.Ytgjfihpmbchhiaa
