/- The walk of Puts. -/
import Derived.Test.YtgkeeibjchjlaaaN
namespace Go.Proofs.Ytgkeeibjchjlaaa
set_option linter.unusedSimpArgs false
set_option linter.unusedVariables false
open Go.RowKit

set_option maxRecDepth 100000 in
set_option maxHeartbeats 20000000 in
theorem puts_walk (w : World) (a : Option Addr) (c : Nat) (l : List ByteArray) (m : Int) (hA : Hid (TextsAt w a l)) (hm : m ≤ 9223372036854775807) (hm2 : -9223372036854775808 ≤ m) :
    Calls Try.prog 4 #[.slice a l.length c, .int .i64 m] w fun e w' => e = .returned (.bool true) ∧ Ext w w' := by
  by_cases hl : 20 < l.length
  · have h1 : (20 : Int) < l.length := by omega
    go_enter Try.func4, Try.ntmps4
    go_wp2_with fail
    refine (awake_any _).mono ?_
    rintro e w1 ⟨rfl, x0⟩
    go_wp2_with fail
    go_ret
    exact ⟨rfl, x0⟩
  have h1 : ¬ (20 : Int) < l.length := by omega
  have hl1 : l.length ≤ 1000000 := by omega
  go_enter Try.func4, Try.ntmps4
  go_wp2_with fail
  go_loopw [5] (fun i wr => ∃ j : Nat, i = .int .i64 j ∧ j ≤ l.length ∧ (∀ s ∈ l.take j, s.size ≤ 1000000) ∧ Ext w wr) (fun i _ => l.length - (intOf i).toNat)
  case atStart => exact ⟨0, rfl, by omega, by simp, Ext.refl w⟩
  case round =>
    obtain ⟨j, rfl, hj, hf, hx⟩ := hrel
    by_cases hlt : j < l.length
    · have hlt2 : (j : Int) < l.length := by omega
      obtain ⟨o1, o2, rfl, hc⟩ := (hA.out.ext hx).get hlt
      have hd : l.take (j + 1) = l.take j ++ [l[j]] := List.take_succ_eq_append_getElem hlt
      generalize l[j] = s at *
      by_cases hb : 200 < s.size
      · have hb2 : (200 : Int) < s.size := by omega
        clear hf hd
        go_wp2_with fail
        refine (awake_any _).mono ?_
        rintro e w1 ⟨rfl, x1⟩
        go_wp2_with fail
        go_ret
        exact ⟨rfl, hx.trans x1⟩
      · have hb2 : ¬ (200 : Int) < s.size := by omega
        have hsz : s.size ≤ 1000000 := by omega
        have HF := Lib.hid (show ∀ s' ∈ l.take (j + 1), s'.size ≤ 1000000 by
          intro s' hs'
          rw [hd] at hs'
          rcases List.mem_append.1 hs' with h | h
          · exact hf s' h
          · simp at h; rw [h]; exact hsz)
        clear hd hf
        go_wp2_with fail
        refine (put_any _ s).mono ?_
        rintro e w1 ⟨rfl, x1⟩
        have hc := x1.cell_some hc
        have hx := hx.trans x1
        clear x1
        go_wp2_with fail
        refine (rput_any _ s).mono ?_
        rintro e w2 ⟨rfl, x1⟩
        have hc := x1.cell_some hc
        have hx := hx.trans x1
        clear x1
        generalize putS s = ps at *
        generalize putE s = pe at *
        go_wp2_with fail
        refine region_held none [(0, true), (1, true), (2, true), (3, true), (4, true), (5, true), (6, true), (7, true), (8, true), (9, true), (10, true), (11, true), (12, true), (14, true), (15, true), (16, true), (17, true), (13, false), (18, false), (19, true), (20, true)] [] (by kernel_rfl) (by kernel_rfl) (fun _ _ d _ _ h => by cases d <;> exact h) (fun W hW => ?_)
        simp only [pick, pickF, List.getElem?_cons_zero, List.getElem?_cons_succ]

        have q : ∀ w1, Gr none W w1 → w1.cell? ⟨o1, o2 + j, none⟩ = some (.string s) := fun w1 h => h.cell_some (hW ▸ hc) (by simp)
        have hx : Ext w W := hW ▸ hx.dr
        clear hW
        have xe := Ext.refl W
        refine held_yes (xe.gr _) _ rfl (fun w1 hw1 => by unfold Oper.quietAt; go_simp; rfl) ?_
        simp only [Act.put, List.setIfInBounds_toArray, List.set_cons_zero, List.set_cons_succ]
        refine held_yes (xe.gr _) _ rfl (fun w1 hw1 => by unfold Oper.quietAt; go_simp; rfl) ?_
        simp only [Act.put, List.setIfInBounds_toArray, List.set_cons_zero, List.set_cons_succ]
        refine held_yes (xe.gr _) _ rfl (fun w1 hw1 => by unfold Oper.quietAt; go_simp; rfl) ?_
        simp only [Act.put, List.setIfInBounds_toArray, List.set_cons_zero, List.set_cons_succ]
        refine held_yes (xe.gr _) _ rfl (fun w1 hw1 => by unfold Oper.quietAt; go_simp; rfl) ?_
        simp only [Act.put, List.setIfInBounds_toArray, List.set_cons_zero, List.set_cons_succ]
        refine held_yesG (xe.gr _) _ rfl (fun w1 hw1 => by unfold Oper.quietAt; go_simp; rfl) ?_
        simp only [Act.put, List.setIfInBounds_toArray, List.set_cons_zero, List.set_cons_succ]
        refine held_yesG (xe.gr _) _ rfl (fun w1 hw1 => by unfold Oper.quietAt; go_simp; rfl) ?_
        simp only [Act.put, List.setIfInBounds_toArray, List.set_cons_zero, List.set_cons_succ]
        refine held_yesG (xe.gr _) _ rfl (fun w1 hw1 => by unfold Oper.quietAt; go_simp; rfl) ?_
        simp only [Act.put, List.setIfInBounds_toArray, List.set_cons_zero, List.set_cons_succ]
        refine held_yes (xe.gr _) _ rfl (fun w1 hw1 => by unfold Oper.quietAt; go_simp; rfl) ?_
        simp only [Act.put, List.setIfInBounds_toArray, List.set_cons_zero, List.set_cons_succ]
        refine held_yes (xe.gr _) _ rfl (fun w1 hw1 => by unfold Oper.quietAt; go_simp; rfl) ?_
        simp only [Act.put, List.setIfInBounds_toArray, List.set_cons_zero, List.set_cons_succ]
        refine held_yesG (xe.gr _) _ rfl (fun w1 hw1 => by unfold Oper.quietAt; go_simp; rfl) ?_
        simp only [Act.put, List.setIfInBounds_toArray, List.set_cons_zero, List.set_cons_succ]
        refine held_yesG (xe.gr _) _ rfl (fun w1 hw1 => by unfold Oper.quietAt; go_simp; rfl) ?_
        simp only [Act.put, List.setIfInBounds_toArray, List.set_cons_zero, List.set_cons_succ]
        refine held_yesG (xe.gr _) _ rfl (fun w1 hw1 => by unfold Oper.quietAt; go_simp; rfl) ?_
        simp only [Act.put, List.setIfInBounds_toArray, List.set_cons_zero, List.set_cons_succ]
        refine held_yesG (xe.gr _) _ rfl (fun w1 hw1 => by have q0 := q w1 hw1; unfold Oper.quietAt; go_simp; rfl) ?_
        simp only [Act.put, List.setIfInBounds_toArray, List.set_cons_zero, List.set_cons_succ]
        refine held_yesG (xe.gr _) _ rfl (fun w1 hw1 => by unfold Oper.quietAt; go_simp; rfl) ?_
        simp only [Act.put, List.setIfInBounds_toArray, List.set_cons_zero, List.set_cons_succ]
        refine held_yesG (xe.gr _) _ rfl (fun w1 hw1 => by unfold Oper.quietAt; go_simp; rfl) ?_
        simp only [Act.put, List.setIfInBounds_toArray, List.set_cons_zero, List.set_cons_succ]
        refine held_yesG (xe.gr _) _ rfl (fun w1 hw1 => by unfold Oper.quietAt; go_simp; rfl) ?_
        simp only [Act.put, List.setIfInBounds_toArray, List.set_cons_zero, List.set_cons_succ]
        refine held_yesG (xe.gr _) _ rfl (fun w1 hw1 => by have q0 := q w1 hw1; unfold Oper.quietAt; go_simp; rfl) ?_
        simp only [Act.put, List.setIfInBounds_toArray, List.set_cons_zero, List.set_cons_succ]
        refine held_stepG rfl (fun K hK => ?_)
        go_simp
        refine (size_any _ s hsz).mono ?_
        rintro e w2 ⟨rfl, rfl⟩
        refine hK _ _ (xe.gr _) ?_
        clear hK K
        refine held_stepG rfl (fun K hK => ?_)
        go_simp
        refine (rsize_any _ s).mono ?_
        rintro e w2 ⟨rfl, x2⟩
        have xe := xe.trans x2
        refine hK _ _ (xe.gr _) ?_
        clear hK K x2
        refine held_yesG (xe.gr _) _ rfl (fun w1 hw1 => by unfold Oper.quietAt; go_simp; rfl) ?_
        simp only [Act.put, List.setIfInBounds_toArray, List.set_cons_zero, List.set_cons_succ]
        refine held_yes (xe.gr _) _ rfl (fun w1 hw1 => by unfold Oper.quietAt; go_simp; rfl) ?_
        simp only [Act.put, List.setIfInBounds_toArray, List.set_cons_zero, List.set_cons_succ]

        refine held_nil ?_
        go_wp2_with fail
        exact ⟨⟨j + 1, rfl, by omega, HF.out, hx.trans xe⟩, by simp [intOf]; omega⟩
    · have hlt2 : ¬ (j : Int) < l.length := by omega
      have hjl : l.length ≤ j := by omega
      rw [List.take_of_length_le hjl] at hf
      clear hjl
      have HF := Lib.hid hf
      clear hf
      go_wp2_with fail
      refine (join_any _ a c l (Lib.hid (hA.out.ext hx)) HF.out hl1).mono ?_
      rintro e w1 ⟨rfl, x1⟩
      have hx := hx.trans x1
      clear x1
      go_wp2_with fail
      refine (rjoin_any _ a c l (Lib.hid (hA.out.ext hx)) hl1).mono ?_
      rintro e w2 ⟨rfl, x1⟩
      have hx := hx.trans x1
      clear x1
      generalize joinS l = js at *
      generalize joinE l = je at *
      go_wp2_with fail
      refine (fit_any _ a c l m (Lib.hid (hA.out.ext hx)) HF.out hm hl1).mono ?_
      rintro e w3 ⟨rfl, x1⟩
      have hx := hx.trans x1
      clear x1
      go_wp2_with fail
      refine (rfit_any _ a c l m (Lib.hid (hA.out.ext hx)) HF.out hm hl1).mono ?_
      rintro e w4 ⟨rfl, x1⟩
      have hx := hx.trans x1
      clear x1
      go_wp2_with fail
      refine (awake_any _).mono ?_
      rintro e w5 ⟨rfl, x1⟩
      go_wp2_with fail
      go_ret
      exact ⟨rfl, hx.trans x1⟩

end Go.Proofs.Ytgkeeibjchjlaaa
