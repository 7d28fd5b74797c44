/- Texts are packed and unpacked, as the document says. -/
import Derived.Test.YtfkfnhehbhebeaaP
namespace Go.Proofs.Ytfkfnhehbhebeaa
set_option linter.unusedSimpArgs false
set_option linter.unusedVariables false
open Go.RowKit

set_option maxRecDepth 100000 in
set_option maxHeartbeats 8000000 in
theorem rpack_any (w : World) (a : Option Addr) (c : Nat) (l : List ByteArray) (m : Int) (hA : Hid (TextsAt w a l)) (hs : ∀ s ∈ l, s.size ≤ 1000000) :
    Calls Try.prog 29 #[.slice a l.length c, .int .i64 m] w fun e w' => ∃ v, e = .returned (.tuple #[v, .int .i64 (packE l m)]) ∧ BytesAt w' v (packL l m) ∧ Ext w w' := by
  by_cases hl : (255 : Int) < l.length
  case' pos =>
    have hB : packOk l m = false := by unfold packOk; rw [show decide (l.length ≤ 255) = false by simp; omega]; rfl
    have HE := Lib.hid (show packE l m = 5 from if_neg (by simp [hB]))
    have HL := Lib.hid (show packL l m = [] from if_neg (by simp [hB]))
    go_enter Try.func29, Try.ntmps29
    go_wp2_with fail
    refine bodyPost_ret (v := .tuple #[.slice none 0 0, .int .i64 5]) (by simp [results, Try.results29, go_sem]) rfl ⟨_, by rw [HE.out], .inl ⟨HL.out, rfl⟩, Ext.refl _⟩
  case' neg =>
    obtain ⟨i0, hi, hz0, hz1, hz2⟩ := info_parts info5
    have hw8 : IntKind.u8.wrap (l.length : Int) = l.length := by rw [IntKind.wrap_u8]; omega
    go_enter Try.func29, Try.ntmps29
    go_wp2_with fail
    have hl2 : l.length ≤ 255 := by omega
    have hown0 : (w.alloc (.cells #[.int .u8 l.length] 5)).ownsRow w.heap.size 5 1 (.slice (some ⟨w.heap.size, 0, none⟩) 1 1) (packP l m 0).length (bC (packP l m 0)) := by
      have h := World.ownsRow_lit (base := w.heap.size) (size := 1) (e := 5) w #[.int .u8 (l.length : Int)] 1 (Nat.le_refl _) (by decide) rfl
      have e2 : bC (packP l m 0) = [Value.int .u8 l.length] := by
        simp [packP, bC]
        omega
      rw [e2]
      exact h
    have x0 : Ext w (w.alloc (.cells #[.int .u8 l.length] 5)) := Ext.alloc _ _
    generalize w.alloc (.cells #[.int .u8 l.length] 5) = w0 at *
    clear hw8 hl
    go_loopw [6, 7] (fun o i wr => ∃ j : Nat, i = .int .i64 j ∧ j ≤ l.length ∧ (∀ q (h : q < l.length), q < j → sayE l[q] m = 0) ∧ wr.ownsRow w.heap.size 5 1 o (packP l m j).length (bC (packP l m j)) ∧ Ext w wr) (fun _ i _ => l.length - (intOf i).toNat)
    case atStart => exact ⟨0, rfl, by omega, fun q h h0 => by omega, hown0, x0⟩
    case round =>
      clear hown0 x0
      obtain ⟨j, rfl, hj, he, hown, hx⟩ := hrel
      by_cases hlt : j < l.length
      · have hlt2 : (j : Int) < l.length := by omega
        obtain ⟨g, o, rfl, hc⟩ := (hA.out.ext hx).get hlt
        have hsz := hs l[j] (List.getElem_mem hlt)
        have hlen := packP_length l m j hj he
        have hnext := packP_next l m j hlt
        have HJ := Lib.hid (show ¬ sayE l[j] m = 0 → packOk l m = false from pack_no hlt)
        have HX := Lib.hid (show sayE l[j] m = 0 → ∀ q (h : q < l.length), q < j + 1 → sayE l[q] m = 0 from fun h0 q h hq => by
          by_cases hqj : q < j
          · exact he q h hqj
          · obtain rfl : q = j := by omega
            exact h0)
        have HN := Lib.hid hnext
        obtain ⟨s, hsv⟩ : ∃ s, s = l[j] := ⟨_, rfl⟩
        rw [← hsv] at hc hsz
        have HS := Lib.hid hsv
        clear hnext he hsv
        obtain ⟨av, cv, rfl⟩ := own_bytes_slice hown
        go_wp2_with fail
        refine (rsay_any _ s m hsz).mono ?_
        rintro e w2 ⟨vb, rfl, hb, x2⟩
        have hown2 := hown.kept (x2.gr none) (Decidable.em _)
        have hx2 := hx.trans x2
        clear hown hx hc
        by_cases h0 : sayE s m = 0
        · obtain ⟨h1, h2⟩ := say_length h0
          rcases hb with ⟨hb, _⟩ | ⟨gb, cb, rfl, hb⟩
          · rw [hb] at h1; simp at h1; omega
          · have HB := Lib.hid hb
            have H0 := Lib.hid h0
            rw [h0]
            clear h0
            rw [h1]
            have H1 := Lib.hid (And.intro h1 h2)
            clear h1 h2
            go_wp2_with (at_builtin; refine wpList_append_own _ rfl _ _ 46 rfl w.heap.size 5 i0 (.int .u8 0) 1 1 Try.underlying46 hi hz0 hz1 hz2 rfl (by decide) _ _ _ rfl hown2 ⟨gb, 0, none⟩ (1 + s.size) cb (bC (sayL s m)) rfl ?c0 ?c1 ?c2 ?c3 ?c4 ?c5 ?_)
            case c0 => rw [bC_length, H1.out.1]; omega
            case c1 =>
              intro q u hq
              have hq' : q < (sayL s m).length := by have := (List.getElem?_eq_some_iff.1 hq).1; rwa [bC_length] at this
              have := HB.out q hq'
              simp [bC, hq'] at hq
              rw [← hq, add_eq, Nat.zero_add]
              exact this
            case c2 => intro u hu; simp [bC] at hu; obtain ⟨b, _, rfl⟩ := hu; rfl
            case c3 => have := H1.out.2; unfold maxLen; omega
            case c4 => have := H1.out.2; omega
            case c5 => exact hx2.size
            intro v' w3 hown3 hgrow _
            have x3 : Ext w w3 := Below.grown hx2 hgrow hx2.size (fun q hq => (hown2.lt q hq).1)
            have e1 : packP l m (j + 1) = packP l m j ++ sayL s m := by rw [HN.out, HS.out]
            have hown4 : w3.ownsRow w.heap.size 5 1 v' (packP l m (j + 1)).length (bC (packP l m (j + 1))) := by
              rw [e1, List.length_append, bC_append, H1.out.1]
              exact hown3
            have hall := HX.out (by rw [← HS.out]; exact H0.out)
            clear hown3 hgrow hown2 hx2 e1
            go_wp2_with fail
            exact ⟨⟨j + 1, rfl, by omega, hall, hown4, x3⟩, by simp [intOf]; omega⟩
        · have h5 := say_five h0
          have hB := HJ.out (by rw [← HS.out]; exact h0)
          have HE := Lib.hid (show packE l m = 5 from if_neg (by simp [hB]))
          have HL := Lib.hid (show packL l m = [] from if_neg (by simp [hB]))
          rw [h5]
          clear h0 h5 hB hown2 hb
          go_wp2_with fail
          refine bodyPost_ret (v := .tuple #[.slice none 0 0, .int .i64 5]) (by simp [results, Try.results29, go_sem]) rfl ⟨_, by rw [HE.out], .inl ⟨HL.out, rfl⟩, hx2⟩
      · have hlt2 : ¬ (j : Int) < l.length := by omega
        have hje : j = l.length := by omega
        subst hje
        have hB := pack_yes hl2 (fun q h => he q h h)
        have HE := Lib.hid (show packE l m = 0 from if_pos hB)
        have HL := Lib.hid (show packL l m = packP l m l.length from if_pos hB)
        have hb := own_bytes hown
        obtain ⟨av, cv, rfl⟩ := own_bytes_slice hown
        clear hown he hB
        have HB := Lib.hid hb
        clear hb
        go_wp2_with fail
        refine bodyPost_ret (v := .tuple #[.slice av (packP l m l.length).length cv, .int .i64 0]) (by simp [results, Try.results29, go_sem]) rfl ⟨_, by rw [HE.out], by rw [HL.out]; exact HB.out, hx⟩

set_option maxRecDepth 100000 in
set_option maxHeartbeats 8000000 in
theorem runpack_any (w : World) (s : ByteArray) (m : Int) (hs : s.size ≤ 1000000) : Calls Try.prog 31 #[.string s, .int .i64 m] w fun e w' =>
    ∃ a c, e = .returned (.tuple #[.slice a (unpackL s m).length c, .int .i64 (unpackE s m)]) ∧ TextsAt w' a (unpackL s m) ∧ Ext w w' := by
  obtain ⟨i0, hi, hz0, hz1, hz2⟩ := info_parts info9
  obtain ⟨hn1, hn2⟩ := upN_le s
  go_enter Try.func31, Try.ntmps31
  go_wp2_with fail
  refine (ropen_any _ s).mono ?_
  rintro e w1 ⟨rfl, x0⟩
  go_wp2_with fail
  refine (rnum_any _ s 0 0 1 hs).mono ?_
  rintro e w2 ⟨rfl, x1⟩
  have x0 := x0.trans x1
  have hsz := x0.size
  clear x1
  rw [hn2]
  have B6 : RBox (w2.alloc (.cells #[.string s, .int .i64 (upS s m 0).1, .int .i64 (upS s m 0).2] 23)) w2.heap.size s (upS s m 0).1 (upS s m 0).2 := RBox.new w2 23 s _ _
  have x0 : Ext w (w2.alloc (.cells #[.string s, .int .i64 (upS s m 0).1, .int .i64 (upS s m 0).2] 23)) := x0.al _
  rw [show numP s 0 0 1 = (upS s m 0).1 from rfl, show numE s 0 0 1 = (upS s m 0).2 from rfl]
  have hz : ¬ (upS s m 0).2 = 0 → upN s = 0 := fun h => by unfold upN; rw [(num1_no (p := 0) (b := 0) (s := s) h).2]; rfl
  have HZ := Lib.hid hz
  clear hz
  go_wp2_with fail
  have hlt6 := B6.lt
  generalize w2.alloc (.cells #[.string s, .int .i64 (upS s m 0).1, .int .i64 (upS s m 0).2] 23) = w3 at *
  generalize w2.heap.size = g6 at *
  clear hn2
  go_loopw [8, 9] (fun o i wr => ∃ j : Nat, i = .int .i64 j ∧ j ≤ upN s ∧ RBox wr g6 s (upS s m j).1 (upS s m j).2 ∧ wr.ownsRow (g6 + 1) 9 1 o (upT s m j).length (tC (upT s m j)) ∧ Ext w wr) (fun _ i _ => upN s - (intOf i).toNat)
  case atStart => exact ⟨0, rfl, by omega, B6, World.ownsRow_nil _ _ _ _, x0⟩
  case round =>
    clear B6 x0 hlt6
    obtain ⟨j, rfl, hj, hb6, hown, hx⟩ := hrel
    have hlt6 := hb6.lt
    have htl := upT_length s m j
    by_cases hgo : j < upN s ∧ (upS s m j).2 = 0
    · obtain ⟨hlt, hb0⟩ := hgo
      have hlt2 : (j : Int) < upN s := by omega
      have hT := up_texts (s := s) (m := m) (j := j)
      have hS := up_step (s := s) (m := m) (j := j)
      have HS := Lib.hid hS
      have HT := Lib.hid hT
      clear hS hT
      obtain ⟨av, cv, rfl, hat⟩ := own_texts hown
      rw [htl] at hown
      clear hat
      generalize (upS s m j).1 = p at *
      generalize (upS s m j).2 = b at *
      subst hb0
      have BQ := Lib.hid hb6
      obtain ⟨c0, c1, c2⟩ := hb6.cells
      clear hb6
      go_wp2_with fail
      refine (rtext_any _ s p 0 m hs).mono ?_
      rintro e w4 ⟨rfl, x4⟩
      have BQ := Lib.hid (BQ.out.ext x4)
      have hown := hown.kept (x4.gr none) (Decidable.em _)
      have hx := hx.trans x4
      have hlt6 := BQ.out.lt
      clear x4 c0 c1 c2
      generalize textP s p 0 m = p' at *
      generalize textE s p 0 m = b' at *
      generalize textS s p 0 m = t' at *
      have BQ := Lib.hid (BQ.out.ext (Ext.alloc w4 (.cells #[.string s, .int .i64 p', .int .i64 b'] 23)))
      obtain ⟨c0, c1, c2⟩ := BQ.out.cells
      obtain ⟨f0, f1, f2⟩ := BQ.out.free
      have hown := hown.alloc (.cells #[.string s, .int .i64 p', .int .i64 b'] 23)
      have hx := hx.al (.cells #[.string s, .int .i64 p', .int .i64 b'] 23)
      clear hlt6
      have BQ := Lib.hid (BQ.out.put s p' b')
      have hown' : ((((w4.alloc (.cells #[.string s, .int .i64 p', .int .i64 b'] 23)).setCell ⟨g6, 0, none⟩ (.string s)).setCell ⟨g6, 1, none⟩ (.int .i64 p')).setCell ⟨g6, 2, none⟩ (.int .i64 b')).ownsRow (g6 + 1) 9 1 (.slice av j cv) j (tC (upT s m j)) := by
        refine hown.kept (row := some g6) ((((Gr.refl _ _).set _).set _).set _) ?_
        cases hv : Value.ownBlock (.slice av j cv) with
        | none => exact .inl rfl
        | some k => right; intro e; cases e; have := (hown.lt _ hv).1; omega
      have hx' : Ext w ((((w4.alloc (.cells #[.string s, .int .i64 p', .int .i64 b'] 23)).setCell ⟨g6, 0, none⟩ (.string s)).setCell ⟨g6, 1, none⟩ (.int .i64 p')).setCell ⟨g6, 2, none⟩ (.int .i64 b')) := Ext.set (Ext.set (Ext.set hx (by omega) _) (by omega) _) (by omega) _
      clear hown hx
      go_wp2_with (at_builtin; refine wpList_append_own _ rfl _ _ 54 rfl (g6 + 1) 9 i0 (.string { data := #[] }) 1 16 Try.underlying54 hi hz0 hz1 hz2 rfl (by decide) _ _ _ rfl (hown'.alloc _) ⟨w4.heap.size + 1, 0, none⟩ 1 1 [.string t'] rfl rfl ?c1 ?c2 ?c3 ?c4 ?c5 ?_)
      case c1 =>
        intro q u hq
        match q, hq with
        | 0, hq => simp at hq; subst hq; exact new_cell _ _ _ _ (by simp [World.setCell])
      case c2 => intro u hu; simp at hu; subst hu; rfl
      case c3 => unfold maxLen; omega
      case c4 => omega
      case c5 => have := BQ.out.lt; simp at this ⊢; omega
      intro v' w5 hown5 hgrow _
      have x5 : Ext w w5 := Below.grown (hx'.al _) hgrow (by have := hx'.size; simp at this ⊢; omega) (fun q hq => by have := (hown'.lt q hq).1; omega)
      have hb6 := (BQ.out.ext (Ext.alloc _ (.cells #[.string t'] 9)))
      have hb6' : RBox w5 g6 s p' b' := by
        have hl := hb6.lt
        obtain ⟨⟨c0, c1, c2⟩, ⟨f0, f1, f2⟩⟩ := hb6
        have hbk := hgrow.block g6 hl (fun e => by have := (hown'.lt g6 e.symm).1; omega)
        exact ⟨⟨(World.cell?_of_block hbk).trans c0, (World.cell?_of_block hbk).trans c1, (World.cell?_of_block hbk).trans c2⟩, ⟨(World.frozen?_of_block hbk).trans f0, (World.frozen?_of_block hbk).trans f1, (World.frozen?_of_block hbk).trans f2⟩⟩
      have hown6 : w5.ownsRow (g6 + 1) 9 1 v' (upT s m (j + 1)).length (tC (upT s m (j + 1))) := by
        rw [HT.out, List.length_append, tC_append, htl]
        exact hown5
      have HB := Lib.hid hb6'
      clear hown5 hgrow hb6 hb6' hown' c0 c1 c2 f0 f1 f2
      go_wp2_with fail
      refine ⟨⟨j + 1, rfl, by omega, ?_, hown6, x5⟩, by simp [intOf]; omega⟩
      rw [HS.out]
      exact HB.out
    · have hup : upS s m (upN s) = upS s m j := by
        by_cases hb : (upS s m j).2 = 0
        · rw [show j = upN s from Nat.le_antisymm hj (Nat.le_of_not_lt fun h => hgo ⟨h, hb⟩)]
        · exact up_end hb hj
      have HU := Lib.hid (show unpackE s m = doneI s (upS s m j).1 (upS s m j).2 by unfold unpackE; rw [hup])
      have HZ0 := Lib.hid (show unpackE s m = 0 → j = upN s ∧ unpackL s m = upT s m (upN s) from fun h => by
        refine ⟨?_, if_pos h⟩
        have hb : (upS s m j).2 = 0 := by
          rw [show unpackE s m = doneI s (upS s m j).1 (upS s m j).2 by unfold unpackE; rw [hup]] at h
          by_cases hf : faultI s (upS s m j).1 (upS s m j).2 = 0
          · exact (fault_zero hf).1
          · rw [done_no hf] at h; exact absurd h hf
        exact Nat.le_antisymm hj (Nat.le_of_not_lt fun h => hgo ⟨h, hb⟩))
      have HL2 := Lib.hid (show ¬ unpackE s m = 0 → unpackL s m = [] from fun h => if_neg h)
      obtain ⟨av, cv, rfl, hat⟩ := own_texts hown
      have HA := Lib.hid hat
      rw [htl] at *
      by_cases hjn : j < upN s
      case' pos =>
        have hlt2 : (j : Int) < upN s := by omega
        have hbn : ((upS s m j).2 == 0) = false := by
          have : ¬ (upS s m j).2 = 0 := fun h => hgo ⟨hjn, h⟩
          simpa using this
      case' neg =>
        have hlt2 : ¬ (j : Int) < upN s := by omega
      all_goals
        have BQ := Lib.hid hb6
        obtain ⟨c0, c1, c2⟩ := hb6.cells
        clear hown hb6 hat hup hgo
        generalize (upS s m j).1 = p at *
        generalize (upS s m j).2 = b at *
        go_wp2_with fail
        refine (rdone_any _ s p b hs).mono ?_
        rintro e w5 ⟨rfl, x5⟩
        have BQ := Lib.hid (BQ.out.ext x5)
        have HA := Lib.hid (HA.out.ext x5)
        have hx' := hx.trans x5
        rw [← HU.out]
        clear c0 c1 c2
        obtain ⟨c0, c1, c2⟩ := BQ.out.cells
        by_cases hd : unpackE s m = 0
        · obtain ⟨hjN, hL⟩ := HZ0.out hd
          rw [hd]
          have HD := Lib.hid hd
          have HLL := Lib.hid hL
          have HJN := Lib.hid hjN
          clear hd hL hjN
          go_wp2_with fail
          refine bodyPost_ret (v := .tuple #[.slice av j cv, .int .i64 0]) (by simp [results, Try.results31, go_sem]) rfl ⟨av, cv, by rw [HLL.out, upT_length, HD.out, ← HJN.out], by rw [HLL.out, ← HJN.out]; exact HA.out, hx'⟩
        · have hne : (unpackE s m != 0) = true := by simpa using hd
          have HLL := Lib.hid (HL2.out hd)
          clear hd
          go_wp2_with fail
          refine (rdone_any _ s p b hs).mono ?_
          rintro e w6 ⟨rfl, x6⟩
          rw [← HU.out]
          go_wp2_with fail
          refine bodyPost_ret (v := .tuple #[.slice none 0 0, .int .i64 (unpackE s m)]) (by simp [results, Try.results31, go_sem]) rfl ⟨none, 0, by rw [HLL.out]; rfl, .inl HLL.out, hx'.trans x6⟩

end Go.Proofs.Ytfkfnhehbhebeaa
