/- Two sides that hear all that is passed on agree: the walk. -/
import Derived.Test.YtgjfihpmbchhiaaD
namespace Go.Proofs.Ytgjfihpmbchhiaa
set_option linter.unusedSimpArgs false
set_option linter.unusedVariables false
open Go.RowKit

/-- Two states that agree. -/
def goodB (x y : Int) : Bool := decide (0 ≤ x) && decide (x ≤ 15) && decide (0 ≤ y) && decide (y ≤ 15) && decide (chk x = 0) && decide (chk y = 0) && decide (mirI x = y) && decide (mirI y = x)
theorem good_parts {x y : Int} (h : goodB x y = true) : (0 ≤ x ∧ x ≤ 15) ∧ (0 ≤ y ∧ y ≤ 15) ∧ chk x = 0 ∧ chk y = 0 ∧ mirI x = y ∧ mirI y = x := by
  simp [goodB] at h
  omega

def hears (x y k : Int) : Int := if outB x k = true then inI y k else y

theorem step_fin : ∀ i : Fin 16, ∀ k : Fin 4, goodB (i.val : Int) (mirI (i.val : Int)) = true → goodB (outI (i.val : Int) (7 + (k.val : Int))) (hears (i.val : Int) (mirI (i.val : Int)) (7 + (k.val : Int))) = true := by decide +kernel

theorem good_step {x y k : Int} (h : goodB x y = true) (h0 : 7 ≤ k) (h1 : k ≤ 10) : goodB (outI x k) (hears x y k) = true := by
  obtain ⟨⟨hx0, hx1⟩, _, _, _, hm, _⟩ := good_parts h
  have e := step_fin ⟨x.toNat, by omega⟩ ⟨(k - 7).toNat, by omega⟩
  simp only at e
  rw [show ((x.toNat : Nat) : Int) = x by omega, show (7 : Int) + (((k - 7).toNat : Nat) : Int) = k by omega, hm] at e
  exact e h

theorem good_flip {x y : Int} (h : goodB x y = true) : goodB y x = true := by
  obtain ⟨⟨a, b⟩, ⟨c, d⟩, e, f, g, i⟩ := good_parts h
  simp [goodB, a, b, c, d, e, f, g, i]

/-- The cells of a slice of what is said. -/
def OpsAt (w : World) (a : Option Addr) (l : List (Int × Bool)) : Prop :=
  l = [] ∨ ∃ g o, a = some ⟨g, o, none⟩ ∧ ∀ j (h : j < l.length), w.cell? ⟨g, o + j * 2, none⟩ = some (.int .u8 l[j].1) ∧ w.cell? ⟨g, o + j * 2 + 1, none⟩ = some (.bool l[j].2) ∧ 0 ≤ l[j].1 ∧ l[j].1 ≤ 255

theorem OpsAt.get {w : World} {a : Option Addr} {l : List (Int × Bool)} (h : OpsAt w a l) {j : Nat} (hj : j < l.length) :
    ∃ g o x b, a = some ⟨g, o, none⟩ ∧ (0 ≤ x ∧ x ≤ 255) ∧ w.cell? ⟨g, o + j * 2, none⟩ = some (.int .u8 x) ∧ w.cell? ⟨g, o + j * 2 + 1, none⟩ = some (.bool b) := by
  rcases h with rfl | ⟨g, o, ha, hc⟩
  · simp at hj
  · obtain ⟨h1, h2, h3, h4⟩ := hc j hj
    exact ⟨g, o, _, _, ha, ⟨h3, h4⟩, h1, h2⟩

theorem kinds {k : Int} (h0 : 7 ≤ k) (h1 : k ≤ 10) : k = 7 ∨ k = 8 ∨ k = 9 ∨ k = 10 := by omega

theorem agree_yes (w : World) {x y : Int} (h : goodB x y = true) : Calls Try.prog 8 #[.int .i64 x, .int .i64 y] w fun e w' => e = .returned (.bool true) ∧ w' = w := by
  obtain ⟨⟨a, b⟩, ⟨c, d⟩, e, f, g, i⟩ := good_parts h
  have q := agree_any w x y a b c d
  rw [show (decide (chk x = 0) && (decide (chk y = 0) && decide (mirI x = y))) = true by simp [e, f, g]] at q
  exact q

theorem check_yes (w : World) {x y : Int} (h : goodB x y = true) : Calls Try.prog 9 #[.int .i64 x] w fun e w' => e = .returned (.int .i64 0) ∧ w' = w := by
  obtain ⟨⟨a, b⟩, _, e, _⟩ := good_parts h
  have q := check_any w x a b
  rw [e] at q
  exact q

set_option maxRecDepth 100000 in
set_option maxHeartbeats 20000000 in
theorem agree_walk (w : World) (a : Option Addr) (c : Nat) (l : List (Int × Bool)) (hA : Hid (OpsAt w a l)) : Calls Try.prog 3 #[.slice a l.length c] w fun e w' => e = .returned (.bool true) ∧ Ext w w' := by
  by_cases hl : (100 : Int) < l.length
  case' pos =>
    go_enter Try.func3, Try.ntmps3
    go_wp2_with fail
    refine (awake_any _).mono ?_
    rintro e w1 ⟨rfl, x1⟩
    go_wp2_with fail
    go_ret
    exact ⟨rfl, x1⟩
  go_enter Try.func3, Try.ntmps3
  go_wp2_with fail
  go_loopw [3, 4, 5] (fun p q i wr => ∃ (j : Nat) (x y : Int), i = .int .i64 j ∧ p = .int .i64 x ∧ q = .int .i64 y ∧ j ≤ l.length ∧ goodB x y = true ∧ wr = w) (fun _ _ i _ => l.length - (intOf i).toNat)
  case atStart => exact ⟨0, 0, 0, rfl, rfl, rfl, by omega, by decide +kernel, rfl⟩
  case round =>
    obtain ⟨j, x, y, rfl, rfl, rfl, hj, hgd, rfl⟩ := hrel
    by_cases hlt : j < l.length
    · have hlt2 : (j : Int) < l.length := by omega
      obtain ⟨g, o, kd, b, rfl, ⟨hk0, hk1⟩, hc1, hc2⟩ := hA.out.get hlt
      have h7 : 7 ≤ 7 + kd % 4 := by omega
      have h10 : 7 + kd % 4 ≤ 10 := by omega
      have hkk := kinds h7 h10
      cases b
      case' false =>
        have hxy : goodB x y = true := hgd
        obtain ⟨⟨hx0, hx1⟩, ⟨hy0, hy1⟩, _⟩ := good_parts hxy
        have hst := good_step hxy h7 h10
        obtain ⟨k, hk⟩ : ∃ k, k = 7 + kd % 4 := ⟨_, rfl⟩
        have HK := Lib.hid hk
        rw [← hk] at hst hkk
        obtain ⟨u, hu⟩ : ∃ u, u = outI x k := ⟨_, rfl⟩
        obtain ⟨v, hv⟩ : ∃ v, v = hears x y k := ⟨_, rfl⟩
        rw [← hu, ← hv] at hst
        have HU := Lib.hid hu
        have HV := Lib.hid hv
        have HS := Lib.hid hst
        have HS2 := Lib.hid (good_flip hst)
        have HKK := Lib.hid hkk
        clear hu hv hst hkk hxy hgd h7 h10 hk
        by_cases hp : outB x k = true
        case' pos =>
          have HV2 := Lib.hid (show inI y k = v by rw [HV.out]; exact (if_pos hp).symm)
          have HP := Lib.hid hp
          clear hp
          go_wp2_with fail
          rw [← HK.out]
          refine (out_any _ x k hx0 hx1 HKK.out).mono ?_
          rintro e w1 ⟨rfl, rfl⟩
          rw [HP.out, ← HU.out]
          go_wp2_with fail
          refine (in_any _ y k hy0 hy1 HKK.out).mono ?_
          rintro e w2 ⟨rfl, rfl⟩
          rw [HV2.out]
          go_wp2_with fail
        case' neg =>
          have HV2 := Lib.hid (show y = v by rw [HV.out]; exact (if_neg hp).symm)
          have hp : outB x k = false := by simpa using hp
          have HP := Lib.hid hp
          clear hp
          go_wp2_with fail
          rw [← HK.out]
          refine (out_any _ x k hx0 hx1 HKK.out).mono ?_
          rintro e w1 ⟨rfl, rfl⟩
          rw [HP.out, ← HU.out]
          have hyv := HV2.out
          subst hyv
          go_wp2_with fail
        all_goals
          refine (agree_yes _ HS.out).mono ?_
          rintro e w3 ⟨rfl, rfl⟩
          go_wp2_with fail
          refine (agree_yes _ HS2.out).mono ?_
          rintro e w4 ⟨rfl, rfl⟩
          go_wp2_with fail
          refine (check_yes _ HS.out).mono ?_
          rintro e w5 ⟨rfl, rfl⟩
          go_wp2_with fail
          exact ⟨⟨j + 1, _, _, rfl, rfl, rfl, by omega, HS.out, trivial⟩, by simp [intOf]; omega⟩
      case' true =>
        have hxy : goodB y x = true := good_flip hgd
        obtain ⟨⟨hx0, hx1⟩, ⟨hy0, hy1⟩, _⟩ := good_parts hxy
        have hst := good_step hxy h7 h10
        obtain ⟨k, hk⟩ : ∃ k, k = 7 + kd % 4 := ⟨_, rfl⟩
        have HK := Lib.hid hk
        rw [← hk] at hst hkk
        obtain ⟨u, hu⟩ : ∃ u, u = outI y k := ⟨_, rfl⟩
        obtain ⟨v, hv⟩ : ∃ v, v = hears y x k := ⟨_, rfl⟩
        rw [← hu, ← hv] at hst
        have HU := Lib.hid hu
        have HV := Lib.hid hv
        have HS := Lib.hid hst
        have HS2 := Lib.hid (good_flip hst)
        have HKK := Lib.hid hkk
        clear hu hv hst hkk hxy hgd h7 h10 hk
        by_cases hp : outB y k = true
        case' pos =>
          have HV2 := Lib.hid (show inI x k = v by rw [HV.out]; exact (if_pos hp).symm)
          have HP := Lib.hid hp
          clear hp
          go_wp2_with fail
          rw [← HK.out]
          refine (out_any _ y k hx0 hx1 HKK.out).mono ?_
          rintro e w1 ⟨rfl, rfl⟩
          rw [HP.out, ← HU.out]
          go_wp2_with fail
          refine (in_any _ x k hy0 hy1 HKK.out).mono ?_
          rintro e w2 ⟨rfl, rfl⟩
          rw [HV2.out]
          go_wp2_with fail
        case' neg =>
          have HV2 := Lib.hid (show x = v by rw [HV.out]; exact (if_neg hp).symm)
          have hp : outB y k = false := by simpa using hp
          have HP := Lib.hid hp
          clear hp
          go_wp2_with fail
          rw [← HK.out]
          refine (out_any _ y k hx0 hx1 HKK.out).mono ?_
          rintro e w1 ⟨rfl, rfl⟩
          rw [HP.out, ← HU.out]
          have hyv := HV2.out
          subst hyv
          go_wp2_with fail
        all_goals
          refine (agree_yes _ HS2.out).mono ?_
          rintro e w3 ⟨rfl, rfl⟩
          go_wp2_with fail
          refine (agree_yes _ HS.out).mono ?_
          rintro e w4 ⟨rfl, rfl⟩
          go_wp2_with fail
          refine (check_yes _ HS2.out).mono ?_
          rintro e w5 ⟨rfl, rfl⟩
          go_wp2_with fail
          exact ⟨⟨j + 1, _, _, rfl, rfl, rfl, by omega, HS2.out, trivial⟩, by simp [intOf]; omega⟩
    · have hlt2 : ¬ (j : Int) < l.length := by omega
      go_wp2_with fail
      refine (awake_any _).mono ?_
      rintro e w1 ⟨rfl, x1⟩
      go_wp2_with fail
      go_ret
      exact ⟨rfl, x1⟩

end Go.Proofs.Ytgjfihpmbchhiaa
