/- Texts are unpacked. -/
import Derived.Test.YtfkfnhehbhebeaaL
namespace Go.Proofs.Ytfkfnhehbhebeaa
set_option linter.unusedSimpArgs false
set_option linter.unusedVariables false
open Go.RowKit

theorem info9 : (Try.prog.info? 9).map (fun i => (i.zero, i.size, i.bytes)) = some (some (.string { data := #[] }), 1, 16) := by kernel_rfl

theorem new_cell (W : World) (x : Value) (t : TypeId) (g : Nat) (h : W.heap.size = g) : (W.alloc (.cells #[x] t)).cell? ⟨g, 0, none⟩ = some x := by
  subst h
  simp

/-- Texts as cells. -/
def tC (l : List ByteArray) : List Value := l.map Value.string

theorem own_texts {w : World} {base : Nat} {v : Value} {l : List ByteArray} (h : w.ownsRow base 9 1 v l.length (tC l)) : ∃ a c, v = .slice a l.length c ∧ TextsAt w a l := by
  have h' := h
  obtain ⟨_, h | ⟨g, cap, cur, hv, _, hb, hn, hm, hs, ht⟩⟩ := h
  · obtain ⟨rfl, h0⟩ := h
    exact ⟨none, 0, by rw [h0], .inl (List.eq_nil_of_length_eq_zero h0)⟩
  · refine ⟨_, cap, hv, .inr ⟨g, 0, rfl, fun j hj => ?_⟩⟩
    rw [Nat.zero_add, World.ownsRow.cellAt (hv ▸ h') j (by omega)]
    simp [tC, hj]

theorem tC_append (a b : List ByteArray) : tC (a ++ b) = tC a ++ tC b := by simp [tC]

theorem up_texts {s : ByteArray} {m : Int} {j : Nat} : (upT s m (j + 1)) = upT s m j ++ [textS s (upS s m j).1 (upS s m j).2 m] := rfl
theorem up_step {s : ByteArray} {m : Int} {j : Nat} : upS s m (j + 1) = (textP s (upS s m j).1 (upS s m j).2 m, textE s (upS s m j).1 (upS s m j).2 m) := rfl

set_option maxRecDepth 100000 in
set_option maxHeartbeats 8000000 in
theorem unpack_any (w : World) (s : ByteArray) (m : Int) (hs : s.size ≤ 1000000) : Calls Try.prog 30 #[.string s, .int .i64 m] w fun e w' =>
    ∃ a c, e = .returned (.tuple #[.slice a (unpackL s m).length c, .int .i64 (unpackE s m)]) ∧ TextsAt w' a (unpackL s m) ∧ Ext w w' := by
  obtain ⟨i0, hi, hz0, hz1, hz2⟩ := info_parts info9
  obtain ⟨hn1, hn2⟩ := upN_le s
  go_enter Try.func30, Try.ntmps30
  go_wp2_with fail
  refine (open_any _ s).mono ?_
  rintro e w1 ⟨rfl, x0⟩
  go_wp2_with fail
  refine (num_any _ s 0 0 1 hs).mono ?_
  rintro e w2 ⟨rfl, x1⟩
  have x0 := x0.trans x1
  have hsz := x0.size
  clear x1
  rw [hn2]
  have B6 : RBox (w2.alloc (.cells #[.string s, .int .i64 (upS s m 0).1, .int .i64 (upS s m 0).2] 27)) w2.heap.size s (upS s m 0).1 (upS s m 0).2 := RBox.new w2 27 s _ _
  have x0 : Ext w (w2.alloc (.cells #[.string s, .int .i64 (upS s m 0).1, .int .i64 (upS s m 0).2] 27)) := x0.al _
  rw [show numP s 0 0 1 = (upS s m 0).1 from rfl, show numE s 0 0 1 = (upS s m 0).2 from rfl]
  have hz : ¬ (upS s m 0).2 = 0 → upN s = 0 := fun h => by unfold upN; rw [(num1_no (p := 0) (b := 0) (s := s) h).2]; rfl
  have HZ := Lib.hid hz
  clear hz
  go_wp2_with fail
  have hlt6 := B6.lt
  generalize w2.alloc (.cells #[.string s, .int .i64 (upS s m 0).1, .int .i64 (upS s m 0).2] 27) = w3 at *
  generalize w2.heap.size = g6 at *
  clear hn2
  go_loopw [8, 9, 18] (fun o _ i wr => ∃ j : Nat, i = .int .i64 j ∧ j ≤ upN s ∧ RBox wr g6 s (upS s m j).1 (upS s m j).2 ∧ wr.ownsRow (g6 + 1) 9 1 o (upT s m j).length (tC (upT s m j)) ∧ Ext w wr) (fun _ _ i _ => upN s - (intOf i).toNat)
  case atStart => exact ⟨0, rfl, by omega, B6, World.ownsRow_nil _ _ _ _, x0⟩
  case round =>
    clear B6 x0 hlt6
    obtain ⟨j, rfl, hj, hb6, hown, hx⟩ := hrel
    have hlt6 := hb6.lt
    have htl := upT_length s m j
    by_cases hlt : j < upN s
    · have hlt2 : (j : Int) < upN s := by omega
      have hT := up_texts (s := s) (m := m) (j := j)
      have hS := up_step (s := s) (m := m) (j := j)
      have HS := Lib.hid hS
      have HT := Lib.hid hT
      have HE := Lib.hid (fun h => up_end (s := s) (m := m) (j := j + 1) (n := upN s) h hlt)
      clear hS hT
      obtain ⟨av, cv, rfl, hat⟩ := own_texts hown
      rw [htl] at hown
      clear hat
      generalize (upS s m j).1 = p at *
      generalize (upS s m j).2 = b at *
      have BQ := Lib.hid hb6
      obtain ⟨c0, c1, c2⟩ := hb6.cells
      obtain ⟨f0, f1, f2⟩ := hb6.free
      clear hb6
      go_wp2_with fail
      refine (text_any _ s p b m hs).mono ?_
      rintro e w4 ⟨rfl, x4⟩
      have BQ := Lib.hid (BQ.out.ext x4)
      have hown := hown.kept (x4.gr none) (Decidable.em _)
      have hx := hx.trans x4
      have hlt6 := BQ.out.lt
      clear x4 c0 c1 c2 f0 f1 f2
      obtain ⟨c0, c1, c2⟩ := BQ.out.cells
      obtain ⟨f0, f1, f2⟩ := BQ.out.free
      generalize textP s p b m = p' at *
      generalize textE s p b m = b' at *
      generalize textS s p b m = t' at *
      by_cases hb : b' = 0
      · subst hb
        have BQ := Lib.hid (BQ.out.put s p' 0)
        have hown' : (((w4.setCell ⟨g6, 0, none⟩ (.string s)).setCell ⟨g6, 1, none⟩ (.int .i64 p')).setCell ⟨g6, 2, none⟩ (.int .i64 0)).ownsRow (g6 + 1) 9 1 (.slice av j cv) j (tC (upT s m j)) := by
          refine hown.kept (row := some g6) ((((Gr.refl _ _).set _).set _).set _) ?_
          cases hv : Value.ownBlock (.slice av j cv) with
          | none => exact .inl rfl
          | some k => right; intro e; cases e; have := (hown.lt _ hv).1; omega
        have hx' : Ext w (((w4.setCell ⟨g6, 0, none⟩ (.string s)).setCell ⟨g6, 1, none⟩ (.int .i64 p')).setCell ⟨g6, 2, none⟩ (.int .i64 0)) := Ext.set (Ext.set (Ext.set hx (by omega) _) (by omega) _) (by omega) _
        have hlt6 := BQ.out.lt
        clear hown hx
        go_wp2_with (at_builtin; refine wpList_append_own _ rfl _ _ 54 rfl (g6 + 1) 9 i0 (.string { data := #[] }) 1 16 Try.underlying54 hi hz0 hz1 hz2 rfl (by decide) _ _ _ rfl (hown'.alloc _) ⟨w4.heap.size, 0, none⟩ 1 1 [.string t'] rfl rfl ?c1 ?c2 ?c3 ?c4 ?c5 ?_)
        case c1 =>
          intro q u hq
          match q, hq with
          | 0, hq => simp at hq; subst hq; exact new_cell _ _ _ _ (by simp [World.setCell])
        case c2 => intro u hu; simp at hu; subst hu; rfl
        case c3 => unfold maxLen; omega
        case c4 => omega
        case c5 => simp; omega
        intro v' w5 hown5 hgrow _
        have x5 : Ext w w5 := Below.grown (hx'.al _) hgrow (by have := hx'.size; simp at this ⊢; omega) (fun q hq => by have := (hown'.lt q hq).1; omega)
        have hb6 := (BQ.out.ext (Ext.alloc _ (.cells #[.string t'] 9)))
        have hb6' : RBox w5 g6 s p' 0 := by
          have hl := hb6.lt
          obtain ⟨⟨c0, c1, c2⟩, ⟨f0, f1, f2⟩⟩ := hb6
          have hbk := hgrow.block g6 hl (fun e => by have := (hown'.lt g6 e.symm).1; omega)
          exact ⟨⟨(World.cell?_of_block hbk).trans c0, (World.cell?_of_block hbk).trans c1, (World.cell?_of_block hbk).trans c2⟩, ⟨(World.frozen?_of_block hbk).trans f0, (World.frozen?_of_block hbk).trans f1, (World.frozen?_of_block hbk).trans f2⟩⟩
        have hown6 : w5.ownsRow (g6 + 1) 9 1 v' (upT s m (j + 1)).length (tC (upT s m (j + 1))) := by
          rw [HT.out, List.length_append, tC_append, htl]
          exact hown5
        have HB := Lib.hid hb6'
        clear hown5 hgrow hb6 hb6' hown'
        go_wp2_with fail
        refine ⟨⟨j + 1, rfl, by omega, ?_, hown6, x5⟩, by simp [intOf]; omega⟩
        rw [HS.out]
        exact HB.out
      · have hbb : (b' != 0) = true := by simpa using hb
        have BQ := Lib.hid (BQ.out.put s p' b')
        have hx' : Ext w (((w4.setCell ⟨g6, 0, none⟩ (.string s)).setCell ⟨g6, 1, none⟩ (.int .i64 p')).setCell ⟨g6, 2, none⟩ (.int .i64 b')) := Ext.set (Ext.set (Ext.set hx (by omega) _) (by omega) _) (by omega) _
        have hup : upS s m (upN s) = (p', b') := by rw [HE.out (by rw [HS.out]; exact hb), HS.out]
        have hd : doneI s p' b' = b' := by
          have hf : faultI s p' b' = b' := if_neg (fun x => hb x.1)
          rw [done_no (by rw [hf]; exact hb), hf]
        have HU := Lib.hid (show unpackE s m = b' ∧ unpackL s m = [] by
          have e : unpackE s m = b' := by unfold unpackE; rw [hup]; exact hd
          exact ⟨e, if_neg (by rw [e]; exact hb)⟩)
        have HD := Lib.hid hd
        clear hup hd hown hx hb
        go_wp2_with fail
        refine (done_any _ s p' b' hs).mono ?_
        rintro e w5 ⟨rfl, x5⟩
        rw [HD.out]
        go_wp2_with fail
        refine bodyPost_ret (v := .tuple #[.slice none 0 0, .int .i64 b']) (by simp [results, Try.results30, go_sem]) rfl ⟨none, 0, by rw [HU.out.1, HU.out.2]; rfl, .inl HU.out.2, hx'.trans x5⟩
    · have hlt2 : ¬ (j : Int) < upN s := by omega
      obtain rfl : j = upN s := by omega
      obtain ⟨av, cv, rfl, hat⟩ := own_texts hown
      have HA := Lib.hid hat
      rw [htl] at *
      have HU := Lib.hid (show unpackE s m = doneI s (upS s m (upN s)).1 (upS s m (upN s)).2 from rfl)
      have HL := Lib.hid (show unpackE s m = 0 → unpackL s m = upT s m (upN s) from fun h => if_pos h)
      have HL2 := Lib.hid (show ¬ unpackE s m = 0 → unpackL s m = [] from fun h => if_neg h)
      have BQ := Lib.hid hb6
      obtain ⟨c0, c1, c2⟩ := hb6.cells
      clear hown hat hb6
      generalize (upS s m (upN s)).1 = p at *
      generalize (upS s m (upN s)).2 = b at *
      go_wp2_with fail
      refine (done_any _ s p b hs).mono ?_
      rintro e w5 ⟨rfl, x5⟩
      have hx' := hx.trans x5
      rw [← HU.out]
      clear c0 c1 c2
      by_cases hd : unpackE s m = 0
      · have hL := HL.out hd
        rw [hd]
        have HD := Lib.hid hd
        have HLL := Lib.hid hL
        clear hd hL
        go_wp2_with fail
        refine bodyPost_ret (v := .tuple #[.slice av (upN s) cv, .int .i64 0]) (by simp [results, Try.results30, go_sem]) rfl ⟨av, cv, by rw [HLL.out, upT_length, HD.out], by rw [HLL.out]; exact HA.out.ext x5, hx'⟩
      · have hne : (unpackE s m != 0) = true := by simpa using hd
        have HLL := Lib.hid (HL2.out hd)
        clear hd
        go_wp2_with fail
        refine bodyPost_ret (v := .tuple #[.slice none 0 0, .int .i64 (unpackE s m)]) (by simp [results, Try.results30, go_sem]) rfl ⟨none, 0, by rw [HLL.out]; rfl, .inl HLL.out, hx'⟩

end Go.Proofs.Ytfkfnhehbhebeaa
