/- A text is written into a builder. -/
import Derived.Test.YtgkeeibjchjlaaaL
import Derived.Test.YtgkeeibjchjlaaaShelf
namespace Go.Proofs.Ytgkeeibjchjlaaa
set_option linter.unusedSimpArgs false
set_option linter.unusedVariables false
open Go.RowKit
open Go.Shelf

theorem builder_size : (Try.prog.info? 61).map (·.size) = some 2 := by kernel_rfl
theorem builder_lies : liesAt Try.prog Try.prog.depth 61 (2 / Try.prog.cellsOf 61) 0 61 1 = true := by kernel_rfl

theorem builder_ext {B b : Nat} {p : Value} {bs : List Value} {w w' : World} (h : Lib.BuilderAtF 61 5 B b p bs w) (x : Ext w w') : Lib.BuilderAtF 61 5 B b p bs w' := by
  obtain ⟨hB, v, hb, hown, hne⟩ := h
  have hlt : b < w.heap.size := (Array.getElem?_eq_some_iff.1 hb).1
  exact ⟨hB, v, (x.block b hlt).trans hb, hown.kept (x.gr none) (Decidable.em _), hne⟩
theorem isBuilder_ext {B b : Nat} {bs : List Value} {w w' : World} (h : Lib.IsBuilderF 61 5 B b bs w) (x : Ext w w') : Lib.IsBuilderF 61 5 B b bs w' := h.imp (builder_ext · x) (builder_ext · x)

set_option maxHeartbeats 2000000 in
set_option maxRecDepth 100000 in
theorem copy_fresh (b : Nat) (w : World) (h0 : w.cell? ⟨b, 0, none⟩ = some (.pointer none)) (hsh : w.shape? b = some (61, 2)) (hfz : w.frozen? ⟨b, 0, none⟩ = false) :
    Calls Try.prog 34 #[.pointer (some ⟨b, 0, none⟩)] w fun e w' => e = .returned (.tuple #[]) ∧ w' = w.setCell ⟨b, 0, none⟩ (.pointer (some ⟨b, 0, none⟩)) := by
  obtain ⟨j, hj, hjs⟩ := Option.map_eq_some_iff.1 builder_size
  have HL := Lib.hid builder_lies
  have HJ := Lib.hid (And.intro hj hjs)
  clear hj hjs
  go_enter Try.func34, Try.ntmps34
  go_wp2
  rw [Lib.run_to_unsafe w ⟨b, 0, none⟩ Try.underlying59 Try.underlying73 HJ.out.1 (by rw [HJ.out.2]; decide) hsh (Nat.zero_lt_succ 1)]
  simp only [Result.andThen]
  rw [Oper.upon_value]
  go_wp2
  rw [run_callFunc_extern Try.func35 (by kernel_rfl) (by kernel_rfl) (by kernel_rfl) (e := Extern.AbiNoEscape.same) (by kernel_rfl)]
  rw [Lib.run_noEscape]
  simp only [Result.andThen]
  rw [Oper.upon_value]
  go_wp2
  rw [Lib.run_from_unsafe w ⟨b, 0, none⟩ Try.underlying73 Try.underlying59 HJ.out.1 hsh HL.out]
  simp only [Result.andThen]
  rw [Oper.upon_value]
  go_wp2
  go_end0
  exact ⟨rfl, rfl⟩

set_option maxHeartbeats 2000000 in
set_option maxRecDepth 100000 in
theorem copy_used (b : Nat) (w : World) (h0 : w.cell? ⟨b, 0, none⟩ = some (.pointer (some ⟨b, 0, none⟩))) :
    Calls Try.prog 34 #[.pointer (some ⟨b, 0, none⟩)] w fun e w' => e = .returned (.tuple #[]) ∧ w' = w := by
  obtain ⟨j, hj, hjs⟩ := Option.map_eq_some_iff.1 builder_size
  have HN := Lib.hid (Lib.run_neq_ptr_same (P := Try.prog) (tp := 59) (te := 61) w ⟨b, 0, none⟩ Try.underlying59 hj)
  clear hj hjs
  go_enter Try.func34, Try.ntmps34
  go_wp2
  rw [HN.out]
  simp only [Result.andThen]
  rw [Oper.upon_value]
  go_wp2
  go_end0
  exact ⟨rfl, rfl⟩

theorem copy_any (B b : Nat) (bs : List Value) (w : World) (h : Lib.IsBuilderF 61 5 B b bs w) :
    Calls Try.prog 34 #[.pointer (some ⟨b, 0, none⟩)] w fun e w' => e = .returned (.tuple #[]) ∧ (Lib.BuilderAtF 61 5 B b (.pointer (some ⟨b, 0, none⟩)) bs w' ∧ Below B w w') := by
  rcases h with h | h
  · refine (copy_fresh b w h.cell0 h.shape h.frozen0).mono ?_
    rintro e w' ⟨rfl, rfl⟩
    exact ⟨rfl, h.used _, (Below.refl B w).setCell (p := ⟨b, 0, none⟩) h.1 _⟩
  · refine (copy_used b w h.cell0).mono ?_
    rintro e w' ⟨rfl, rfl⟩
    exact ⟨rfl, h, Below.refl B _⟩

set_option maxHeartbeats 4000000 in
set_option maxRecDepth 100000 in
/-- A text is written into a builder. -/
theorem write_any (B b : Nat) (bs : List Value) (s : ByteArray) (w : World) (h : Lib.IsBuilderF 61 5 B b bs w) (hlen : bs.length + s.size ≤ 140737488355328) (hBw : B ≤ w.heap.size) :
    Calls Try.prog 28 #[.pointer (some ⟨b, 0, none⟩), .string s] w fun e w' => e = .returned (.tuple #[.int .i64 s.size, .nilIface]) ∧ (Lib.IsBuilderF 61 5 B b (bs ++ Lib.strCells s) w' ∧ Below B w w') := by
  obtain ⟨i0, hi, hz0, hz1, hz2⟩ := info_parts info5
  go_enter Try.func28, Try.ntmps28
  go_wp2_with fail
  refine (copy_any B b bs _ h).mono ?_
  rintro e w1 ⟨rfl, h1, hb1⟩
  obtain ⟨hB, v, hbk, hown, hne⟩ := h1
  have c0 : w1.cell? ⟨b, 0, none⟩ = some (.pointer (some ⟨b, 0, none⟩)) := by rw [Lib.cell_of_heap hbk]; rfl
  have c1 : w1.cell? ⟨b, 1, none⟩ = some v := by rw [Lib.cell_of_heap hbk]; rfl
  go_wp2_with (at_builtin; refine Lib.wpList_append_own_stringF _ rfl _ _ 45 9 rfl B 5 i0 Try.underlying45 Try.underlying9 hi hz0 hz1 hz2 _ _ _ rfl hown s rfl ?c3 ?c4 ?c5 ?_)
  case c3 => unfold maxLen; omega
  case c4 => omega
  case c5 => have := hb1.size; omega
  intro v' w2 hown' hgrow _
  have hlt : b < w1.heap.size := (Array.getElem?_eq_some_iff.1 hbk).1
  have hb2 : w2.heap[b]? = some (.cells #[.pointer (some ⟨b, 0, none⟩), v] 61 (0, 0)) := by
    rw [hgrow.block b hlt (fun e => hne e.symm)]
    exact hbk
  have d0 : w2.cell? ⟨b, 0, none⟩ = some (.pointer (some ⟨b, 0, none⟩)) := by rw [Lib.cell_of_heap hb2]; rfl
  have d1 : w2.cell? ⟨b, 1, none⟩ = some v := by rw [Lib.cell_of_heap hb2]; rfl
  have f1 : w2.frozen? ⟨b, 1, none⟩ = false := Lib.frozen_of_heap hb2 1
  obtain ⟨ao, n', cap, rfl⟩ : ∃ ao n' cap, v' = .slice ao n' cap := by
    rcases hown'.2 with ⟨hv, _⟩ | ⟨g, cap, cur, fz, hv, _⟩
    · exact ⟨_, _, _, hv⟩
    · exact ⟨_, _, _, hv⟩
  go_wp2
  go_ret2
  refine ⟨rfl, ?_, ?_⟩
  · exact .inr (Lib.BuilderAtF.put (T := 61) (e := 5) hB hb2 (bs' := bs ++ Lib.strCells s) (by simpa [Lib.strCells_length] using hown') (by decide))
  · exact (hb1.grown hgrow (by have := hb1.size; omega) (fun k hk => (hown.lt k hk).1)).setCell (p := ⟨b, 1, none⟩) hB _

theorem cells_text (s : ByteArray) : Lib.strCells s = Lib.byteCells s.data.toList := Lib.strCells_eq s

set_option maxRecDepth 100000 in
set_option maxHeartbeats 8000000 in
theorem join_any (w : World) (a : Option Addr) (c : Nat) (l : List ByteArray) (hA : Hid (TextsAt w a l)) (hs : ∀ s ∈ l, s.size ≤ 1000000) (hl : l.length ≤ 1000000) :
    Calls Try.prog 19 #[.slice a l.length c] w fun e w' => e = .returned (.tuple #[.string (joinS l), .int .i64 (joinE l)]) ∧ Ext w w' := by
  go_enter Try.func19, Try.ntmps19
  go_wp2_with fail
  obtain ⟨g, hg⟩ : ∃ g, g = w.heap.size := ⟨_, rfl⟩
  rw [← hg]
  have hB0 : Lib.IsBuilderF 61 5 g g (Lib.byteCells []) (w.alloc (.cells #[.pointer none, .slice none 0 0] 61)) := by rw [hg]; exact Lib.IsBuilderF.of (Lib.fresh_isBuilder 61 5 w)
  have hE0 : Ext w (w.alloc (.cells #[.pointer none, .slice none 0 0] 61)) := Ext.alloc _ _
  have hBE : ∀ w1 w2 : World, Below g w1 w2 → Ext w w1 → Ext w w2 := fun w1 w2 h k => by rw [hg] at h; exact Below.trans k h
  have hgs : ∀ w1 : World, Ext w w1 → g ≤ w1.heap.size := fun w1 h => by rw [hg]; exact h.size
  have HBE := Lib.hid (And.intro hBE hgs)
  clear hg hBE hgs
  go_loopw [11] (fun i wr => ∃ (j : Nat) (t : List UInt8), i = .int .i64 j ∧ j ≤ l.length ∧ t.length ≤ 130 * j ∧ joinR l = (t ++ (joinR (l.drop j)).1, (joinR (l.drop j)).2) ∧ Lib.IsBuilderF 61 5 g g (Lib.byteCells t) wr ∧ Ext w wr) (fun i _ => l.length - (intOf i).toNat)
  case atStart => exact ⟨0, [], rfl, by omega, by simp, by simp, hB0, hE0⟩
  case round =>
    obtain ⟨j, t, rfl, hj, ht, hf, hb, hx⟩ := hrel
    have HB := Lib.hid hb
    clear hb
    by_cases hlt : j < l.length
    · have hlt2 : (j : Int) < l.length := by omega
      obtain ⟨o1, o2, rfl, hc⟩ := (hA.out.ext hx).get hlt
      have hsz := hs l[j] (List.getElem_mem hlt)
      have hd := List.drop_eq_getElem_cons hlt
      rw [hd] at hf
      generalize l[j] = s at *
      have hpl := put_len s
      by_cases hp : putE s = 0
      · have HN := Lib.hid (show joinR l = (t ++ (putS s).data.toList ++ (joinR (l.drop (j + 1))).1, (joinR (l.drop (j + 1))).2) by
          rw [hf, joinR_cons, if_pos hp]
          simp)
        have HP := Lib.hid hp
        clear hd hf hp
        go_wp2_with fail
        refine (put_any _ s).mono ?_
        rintro e w1 ⟨rfl, x1⟩
        rw [HP.out]
        have hx := hx.trans x1
        have HB := Lib.hid (isBuilder_ext HB.out x1)
        clear x1
        obtain ⟨p, hpp⟩ : ∃ p, p = putS s := ⟨_, rfl⟩
        rw [← hpp] at hpl
        rw [← hpp]
        have HPP := Lib.hid hpp
        clear hpp
        go_wp2_with fail
        refine (write_any g g (Lib.byteCells t) p w1 HB.out (by rw [Lib.byteCells_length]; omega) (HBE.out.2 _ hx)).mono ?_
        rintro e w2 ⟨rfl, hb2, bl2⟩
        have HB := Lib.hid hb2
        have hx := HBE.out.1 _ _ bl2 hx
        clear hb2 bl2
        go_wp2_with fail
        refine ⟨⟨j + 1, t ++ p.data.toList, rfl, by omega, ?_, by rw [HPP.out]; exact HN.out, ?_, hx⟩, by simp [intOf]; omega⟩
        · rw [List.length_append, size_list]; omega
        · have := HB.out
          rw [cells_text, ← Lib.byteCells_append] at this
          exact this
      · have hE : joinE l = putE s := by
          unfold joinE
          rw [hf, joinR_cons, if_neg hp]
        have HE := Lib.hid (And.intro hE (show joinS l = { data := #[] } from if_neg (by rw [hE]; exact hp)))
        have hne : (putE s != 0) = true := by simpa using hp
        clear hd hf hp hE
        go_wp2_with fail
        refine (put_any _ s).mono ?_
        rintro e w1 ⟨rfl, x1⟩
        generalize putS s = p at *
        go_wp2_with fail
        refine bodyPost_ret (v := .tuple #[.string { data := #[] }, .int .i64 (putE s)]) (by simp [results, Try.results19, go_sem]) rfl ⟨by rw [HE.out.1, HE.out.2], hx.trans x1⟩
    · have hlt2 : ¬ (j : Int) < l.length := by omega
      have hjl : j = l.length := by omega
      have hR : joinR l = (t, 0) := by rw [hf, hjl, List.drop_length]; simp [joinR]
      have HR := Lib.hid (show joinE l = 0 ∧ joinS l = txt t by
        have : joinE l = 0 := by unfold joinE; rw [hR]
        exact ⟨this, by unfold joinS; rw [if_pos this, hR]⟩)
      clear hf hR hjl
      go_wp2_with fail
      refine (Try.Builder_String_any_f g g t wr HB.out (HBE.out.2 _ hx)).mono ?_
      rintro e w1 ⟨rfl, _, bl1⟩
      have hx := HBE.out.1 _ _ bl1 hx
      clear bl1
      go_wp2_with fail
      refine bodyPost_ret (v := .tuple #[.string (txt t), .int .i64 0]) (by simp [results, Try.results19, go_sem]) rfl ⟨by rw [HR.out.1, HR.out.2], hx⟩

end Go.Proofs.Ytgkeeibjchjlaaa
