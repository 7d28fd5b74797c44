/- All numbers of a ring. -/
import Derived.Test.YtdkblgbmbjagfaaD
import Derived.Test.YtdkblgbmbjagfaaFlow
namespace Go.Proofs.Ytdkblgbmbjagfaa
open Go.RowKit

theorem Try.info3 : (Try.prog.info? 3).map (fun i => (i.zero, i.size, i.bytes)) = some (some (.int .i64 0), 1, 8) := by kernel_rfl

set_option maxHeartbeats 400000 in
theorem all_some (w : World) (b : Nat) (s f : Int) (L : List Int) (hb : b < w.heap.size) (cs : w.cell? ⟨b, 64, none⟩ = some (.int .i64 s)) (cf : w.cell? ⟨b, 65, none⟩ = some (.int .i64 f)) (cm : w.cell? ⟨b, 66, none⟩ = some (.int .i64 L.length))
    (hat : Hid (∀ i : Nat, (i : Int) < L.length → ∃ k : Nat, pl s f i = k ∧ w.cell? ⟨b, k, none⟩ = some (.int .i64 (L.getD i 0))))
    (h0 : 0 ≤ f) (h1 : f < s) (h2 : s ≤ 64) (h3 : L.length ≤ s) :
    Calls Try.prog 21 #[.pointer (some ⟨b, 0, none⟩)] w fun e w' => ∃ v, e = .returned v ∧ w'.ownsRow w.heap.size 3 1 v L.length (L.map (Value.int .i64)) ∧ Ext w w' := by
  obtain ⟨i0, hi, hz0, hz1, hz2⟩ := info_parts Try.info3
  go_enter Try.func21, Try.ntmps21
  go_wp2_with (go_at_call 11; refine (len_some _ b _ (by exact cm)).mono ?_; rintro e w' ⟨rfl, rfl⟩)
  go_loopw [3, 7] (fun v i wr => ∃ k : Nat, k ≤ L.length ∧ i = .int .i64 k ∧ wr.ownsRow w'.heap.size 3 1 v k ((L.take k).map (Value.int .i64)) ∧ Ext w' wr) (fun _ i _ => L.length - (intOf i).toNat)
  case atStart => exact ⟨0, by omega, rfl, World.ownsRow_nil _ _ _ _, Ext.refl _⟩
  case round =>
    obtain ⟨k, hk, rfl, hown, hx⟩ := hrel
    by_cases hlt : k < L.length
    · obtain ⟨k2, hk2, ck⟩ := hat.out k (by omega)
      have hp := pl_bd s f k h0 h1 (by omega) (by omega)
      rw [hk2] at hp
      obtain ⟨_, hp1⟩ := hp
      have hp2 : (k2 : Int) < 64 := by omega
      have hlt2 : (k : Int) < L.length := by omega
      clear hp1
      have HK := Lib.hid hk2
      clear hk2
      generalize hx' : L.getD k 0 = x at ck
      have HX := Lib.hid hx'
      clear hx'
      go_wp2
      refine region_flow [(0, true), (1, true), (2, true), (3, true), (4, true), (5, true), (6, true), (7, true), (8, true), (9, false)] [10, 11] (by kernel_rfl) (by kernel_rfl) (fun _ _ d _ _ h => by cases d <;> exact h) (fun w0 hw0 => ?_)
      simp only [pick, pickF, List.getElem?_cons_zero, List.getElem?_cons_succ]
      have hx0 := hx.trans hw0
      have q1 : ∀ w2, Ext w0 w2 → w2.cell? ⟨b, k2, none⟩ = some (.int .i64 x) := fun w2 h => ((hx0.trans h).cell (by exact hb)).trans ck
      have q2 : ∀ w2, Ext w0 w2 → w2.cell? ⟨b, 64, none⟩ = some (.int .i64 s) := fun w2 h => ((hx0.trans h).cell (by exact hb)).trans cs
      have q3 : ∀ w2, Ext w0 w2 → w2.cell? ⟨b, 65, none⟩ = some (.int .i64 f) := fun w2 h => ((hx0.trans h).cell (by exact hb)).trans cf
      iterate 4
        refine flow_yes _ rfl (fun w1 hw1 => by unfold Oper.quietAt; go_simp; rfl) ?_
        simp only [Act.put, List.setIfInBounds_toArray, List.set_cons_zero, List.set_cons_succ]
      refine flow_yes _ rfl (fun w1 hw1 => by unfold Oper.quietAt; go_simp; exact (place_at w1 b s f k k2 HK.out (q2 _ hw1) (q3 _ hw1) h0 h1 h2 (by omega) (by omega)).mono (fun e w2 ⟨he, hw⟩ => ⟨he, by subst hw; exact Ext.refl _⟩)) ?_
      simp only [Act.put, List.setIfInBounds_toArray, List.set_cons_zero, List.set_cons_succ]
      iterate 4
        refine flow_yes _ rfl (fun w1 hw1 => by unfold Oper.quietAt; go_simp; rfl) ?_
        simp only [Act.put, List.setIfInBounds_toArray, List.set_cons_zero, List.set_cons_succ]
      refine flow_step rfl (fun w1 hw1 K hK => ?_)
      go_simp
      refine hK _ _ (Ext.alloc _ _) ?_
      clear hK K
      refine flow_nil (fun w2 hw2 => ?_)
      have hx1 := hx0.trans hw1
      have hx2 : Ext w0 w2 := hw1.trans ((Ext.alloc w1 _).trans hw2)
      have hown2 : w2.ownsRow w'.heap.size 3 1 u3 k ((L.take k).map (Value.int .i64)) := (hw0.trans hx2).own hown
      have hsz1 := hx1.size
      have hc0 : w2.cell? ⟨w1.heap.size, 0, none⟩ = some (.int .i64 x) := (hw2.cell (by simp)).trans (by simp)
      have hsz2 : w'.heap.size ≤ w2.heap.size := (hx0.trans hx2).size
      have hg1 : w1.heap.size < w2.heap.size := by have := hw2.size; simp at this; omega
      have hxw : Ext w' w2 := hx0.trans hx2
      clear q1 q2 q3 hown hx hx0 hw0 hx1 hw1 hw2 hx2
      go_wp2_with (at_builtin; refine wpList_append_own _ rfl _ _ 28 rfl w'.heap.size 3 i0 (.int .i64 0) 1 8 Try.underlying28 hi hz0 hz1 hz2 rfl (by decide) _ _ _ rfl hown2 ⟨w1.heap.size, 0, none⟩ 1 1 [.int .i64 x] rfl rfl ?c1 ?c2 ?c3 ?c4 ?c5 ?_)
      case c1 =>
        intro j u hj
        match j, hj with
        | 0, hj => simp at hj; subst hj; simpa [Addr.add] using hc0
      case c2 => intro u hu; simp at hu; subst hu; rfl
      case c3 => unfold maxLen; omega
      case c4 => omega
      case c5 => exact hsz2
      intro v' w3 hown' hgrow _
      have hb3 : Ext w' w3 := hxw.grown hgrow hsz2 (fun k hk => (hown2.lt k hk).1)
      clear hgrow hown2 hxw
      go_wp2
      go_roundw
      case rel => exact ⟨k + 1, by omega, by go_num, by
        rw [List.take_succ_eq_append_getElem (by omega)]
        have e : L[k] = x := by rw [← HX.out]; simp [List.getD_eq_getElem?_getD, hlt]
        rw [e, List.map_append]
        simpa using hown', hb3⟩
      case measure => simp [intOf]; omega
    · go_wp2
      go_ret
      have e : k = L.length := by omega
      subst e
      exact ⟨_, rfl, by simpa using hown, hx⟩

end Go.Proofs.Ytdkblgbmbjagfaa
