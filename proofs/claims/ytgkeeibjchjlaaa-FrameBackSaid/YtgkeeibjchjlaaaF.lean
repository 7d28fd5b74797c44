/- How many frames fit. -/
import Derived.Test.YtgkeeibjchjlaaaE
namespace Go.Proofs.Ytgkeeibjchjlaaa
set_option linter.unusedSimpArgs false
set_option linter.unusedVariables false
open Go.RowKit

/-- How many of some texts fit. -/
def fitR : List ByteArray → Int → Nat
  | [], _ => 0
  | s :: r, m => if sizeI s = 0 ∨ m < sizeI s then 0 else 1 + fitR r (m - sizeI s)

theorem size_nn (s : ByteArray) (hs : s.size ≤ 1000000) : 0 ≤ sizeI s ∧ sizeI s ≤ 1000002 := by
  unfold sizeI
  split <;> omega

set_option maxRecDepth 100000 in
set_option maxHeartbeats 8000000 in
theorem fit_any (w : World) (a : Option Addr) (c : Nat) (l : List ByteArray) (m : Int) (hA : Hid (TextsAt w a l)) (hs : ∀ s ∈ l, s.size ≤ 1000000) (hm : m ≤ 9223372036854775807) (hl : l.length ≤ 1000000) :
    Calls Try.prog 21 #[.slice a l.length c, .int .i64 m] w fun e w' => e = .returned (.int .i64 (fitR l m)) ∧ Ext w w' := by
  go_enter Try.func21, Try.ntmps21
  go_wp2_with fail
  go_loopw [1, 10] (fun mo i wr => ∃ (j : Nat) (q : Int), i = .int .i64 j ∧ mo = .int .i64 q ∧ j ≤ l.length ∧ q ≤ 9223372036854775807 ∧ fitR l m = j + fitR (l.drop j) q ∧ Ext w wr) (fun _ i _ => l.length - (intOf i).toNat)
  case atStart => exact ⟨0, m, rfl, rfl, by omega, hm, by simp, Ext.refl w⟩
  case round =>
    obtain ⟨j, q, rfl, rfl, hj, hq, hf, hx⟩ := hrel
    by_cases hlt : j < l.length
    · have hlt2 : (j : Int) < l.length := by omega
      obtain ⟨g, o, rfl, hc⟩ := (hA.out.ext hx).get hlt
      have hsz := hs l[j] (List.getElem_mem hlt)
      have hd := List.drop_eq_getElem_cons hlt
      rw [hd] at hf
      generalize l[j] = s at *
      have hnn := size_nn s hsz
      obtain ⟨z, hz⟩ : ∃ z, z = sizeI s := ⟨_, rfl⟩
      have hf2 : fitR l m = j + (if z = 0 ∨ q < z then 0 else 1 + fitR (l.drop (j + 1)) (q - z)) := by rw [hf, hz]; rfl
      rw [← hz] at hnn
      have HZ := Lib.hid hz
      obtain ⟨hnn0, hnn1⟩ := hnn
      clear hd hf hz
      by_cases h1 : z = 0
      case' pos =>
        have HR := Lib.hid (show fitR l m = j by rw [hf2, if_pos (.inl h1)]; rfl)
        have hzq : (z == 0) = true := by simpa using h1
        clear h1 hf2
      case' neg =>
        have hzq : (z == 0) = false := by simpa using h1
        by_cases h2 : q < z
        case' pos =>
          have HR := Lib.hid (show fitR l m = j by rw [hf2, if_pos (.inr h2)]; rfl)
          clear h1 hf2
        case' neg =>
          have HR := Lib.hid (show fitR l m = (j + 1 : Nat) + fitR (l.drop (j + 1)) (q - z) by rw [hf2, if_neg (by omega)]; omega)
          have hw : IntKind.i64.wrap (q - z) = q - z := IntWalk.i64_in _ (by omega)
          clear h1 hf2
      all_goals
        go_wp2_with fail
        refine (size_any _ s hsz).mono ?_
        rintro e w1 ⟨rfl, rfl⟩
        rw [← HZ.out]
        go_wp2_with fail
        first
        | (refine ⟨⟨j + 1, q - z, rfl, rfl, by omega, by omega, HR.out, hx⟩, by simp [intOf]; omega⟩; done)
        | (go_ret
           exact ⟨by rw [HR.out]; rfl, hx⟩)
    · have hlt2 : ¬ (j : Int) < l.length := by omega
      have hjl : j = l.length := by omega
      have HR := Lib.hid (show fitR l m = l.length by rw [hf, hjl, List.drop_length]; rfl)
      clear hf
      go_wp2_with fail
      go_ret
      exact ⟨by rw [HR.out]; rfl, hx⟩


set_option maxRecDepth 100000 in
set_option maxHeartbeats 8000000 in
theorem rfit_any (w : World) (a : Option Addr) (c : Nat) (l : List ByteArray) (m : Int) (hA : Hid (TextsAt w a l)) (hs : ∀ s ∈ l, s.size ≤ 1000000) (hm : m ≤ 9223372036854775807) (hl : l.length ≤ 1000000) :
    Calls Try.prog 22 #[.slice a l.length c, .int .i64 m] w fun e w' => e = .returned (.int .i64 (fitR l m)) ∧ Ext w w' := by
  go_enter Try.func22, Try.ntmps22
  go_wp2_with fail
  go_loopw [1, 5] (fun mo i wr => ∃ (j : Nat) (q : Int), i = .int .i64 j ∧ mo = .int .i64 q ∧ j ≤ l.length ∧ q ≤ 9223372036854775807 ∧ fitR l m = j + fitR (l.drop j) q ∧ Ext w wr) (fun _ i _ => l.length - (intOf i).toNat)
  case atStart => exact ⟨0, m, rfl, rfl, by omega, hm, by simp, Ext.refl w⟩
  case round =>
    obtain ⟨j, q, rfl, rfl, hj, hq, hf, hx⟩ := hrel
    by_cases hlt : j < l.length
    · have hlt2 : (j : Int) < l.length := by omega
      obtain ⟨g, o, rfl, hc⟩ := (hA.out.ext hx).get hlt
      have hsz := hs l[j] (List.getElem_mem hlt)
      have hd := List.drop_eq_getElem_cons hlt
      rw [hd] at hf
      generalize l[j] = s at *
      have hnn := size_nn s hsz
      obtain ⟨z, hz⟩ : ∃ z, z = sizeI s := ⟨_, rfl⟩
      have hf2 : fitR l m = j + (if z = 0 ∨ q < z then 0 else 1 + fitR (l.drop (j + 1)) (q - z)) := by rw [hf, hz]; rfl
      rw [← hz] at hnn
      have HZ := Lib.hid hz
      obtain ⟨hnn0, hnn1⟩ := hnn
      clear hd hf hz
      by_cases h1 : z = 0
      case' pos =>
        have HR := Lib.hid (show fitR l m = j by rw [hf2, if_pos (.inl h1)]; rfl)
        have hzq : ¬ (0 : Int) < z := by omega
        clear h1 hf2
        go_wp2_with fail
        refine (rsize_any _ s).mono ?_
        rintro e w1 ⟨rfl, x1⟩
        rw [← HZ.out]
        go_wp2_with fail
        go_ret
        exact ⟨by rw [HR.out]; rfl, hx.trans x1⟩
      have hzq : (0 : Int) < z := by omega
      by_cases h2 : q < z
      case' pos =>
        have HR := Lib.hid (show fitR l m = j by rw [hf2, if_pos (.inr h2)]; rfl)
        have h3 : ¬ z ≤ q := by omega
        clear h1 hf2
        go_wp2_with fail
        refine (rsize_any _ s).mono ?_
        rintro e w1 ⟨rfl, x1⟩
        rw [← HZ.out]
        have hc := x1.cell_some hc
        have hx := hx.trans x1
        clear x1
        go_wp2_with fail
        refine (rsize_any _ s).mono ?_
        rintro e w2 ⟨rfl, x1⟩
        rw [← HZ.out]
        go_wp2_with fail
        go_ret
        exact ⟨by rw [HR.out]; rfl, hx.trans x1⟩
      have HR := Lib.hid (show fitR l m = (j + 1 : Nat) + fitR (l.drop (j + 1)) (q - z) by rw [hf2, if_neg (by omega)]; omega)
      have hw : IntKind.i64.wrap (q - z) = q - z := IntWalk.i64_in _ (by omega)
      have h3 : z ≤ q := by omega
      clear h1 hf2
      go_wp2_with fail
      refine (rsize_any _ s).mono ?_
      rintro e w1 ⟨rfl, x1⟩
      rw [← HZ.out]
      have hc := x1.cell_some hc
      have hx := hx.trans x1
      clear x1
      go_wp2_with fail
      refine (rsize_any _ s).mono ?_
      rintro e w2 ⟨rfl, x1⟩
      rw [← HZ.out]
      have hc := x1.cell_some hc
      have hx := hx.trans x1
      clear x1
      go_wp2_with fail
      refine (rsize_any _ s).mono ?_
      rintro e w3 ⟨rfl, x1⟩
      rw [← HZ.out]
      have hx := hx.trans x1
      clear x1
      go_wp2_with fail
      exact ⟨⟨j + 1, q - z, rfl, rfl, by omega, by omega, HR.out, hx⟩, by simp [intOf]; omega⟩
    · have hlt2 : ¬ (j : Int) < l.length := by omega
      have hjl : j = l.length := by omega
      have HR := Lib.hid (show fitR l m = l.length by rw [hf, hjl, List.drop_length]; rfl)
      have HJ := Lib.hid hjl
      clear hf hjl
      go_wp2_with fail
      go_ret
      exact ⟨by rw [HR.out, ← HJ.out]; rfl, hx⟩


end Go.Proofs.Ytgkeeibjchjlaaa
