/- A number is read, as the document says. -/
import Derived.Test.YtfkfnhehbhebeaaC
namespace Go.Proofs.Ytfkfnhehbhebeaa
set_option linter.unusedSimpArgs false
set_option linter.unusedVariables false
open Go.RowKit

theorem RBox.put1 {w : World} {g : Nat} {s : ByteArray} {p b : Int} (h : RBox w g s p b) (v : Int) : RBox (w.setCell ⟨g, 1, none⟩ (.int .i64 v)) g s v b := by
  obtain ⟨⟨c0, c1, c2⟩, ⟨f0, f1, f2⟩⟩ := h
  exact ⟨⟨by go_simp, by go_simp, by go_simp⟩, ⟨by go_simp, by go_simp, by go_simp⟩⟩
theorem RBox.other {w : World} {g : Nat} {s : ByteArray} {p b : Int} (h : RBox w g s p b) {b' o : Nat} {u : Value} (hne : g ≠ b') : RBox (w.setCell ⟨b', o, none⟩ u) g s p b := by
  obtain ⟨⟨c0, c1, c2⟩, ⟨f0, f1, f2⟩⟩ := h
  have hb : (w.setCell ⟨b', o, none⟩ u).heap[g]? = w.heap[g]? := Below.heap_setCell _ _ _ _ hne
  exact ⟨⟨(World.cell?_of_block (w := w) hb).trans c0, (World.cell?_of_block (w := w) hb).trans c1, (World.cell?_of_block (w := w) hb).trans c2⟩, ⟨(World.frozen?_of_block (w := w) hb).trans f0, (World.frozen?_of_block (w := w) hb).trans f1, (World.frozen?_of_block (w := w) hb).trans f2⟩⟩

theorem index_byte (w : World) (s : ByteArray) (P j : Nat) (h : P + j < s.size) : (Instr.index 9 (.string s) (.int .i64 ((P : Int) + (j : Int)))).run Try.prog w = .ok (.int .u8 (byteI s (P + j))) w := by
  rw [run_index_string w 9 s .i64 _ Try.underlying9, dif_pos (by omega)]
  have e : ((P : Int) + (j : Int)).toNat = P + j := by omega
  simp [byteI, h, e]

set_option maxRecDepth 100000 in
set_option maxHeartbeats 8000000 in
theorem rnum_any (w : World) (s : ByteArray) (p b k : Int) (hs : s.size ≤ 1000000) :
    Calls Try.prog 12 #[rdV s p b, .int .i64 k] w fun e w' => e = .returned (.tuple #[rdV s (numP s p b k) (numE s p b k), .int .i64 (numI s p b k)]) ∧ Ext w w' := by
  by_cases hf : faultI s p b = 0
  case' neg =>
    have hne : (faultI s p b != 0) = true := by simpa using hf
    have HN := Lib.hid (show numP s p b k = p ∧ numE s p b k = faultI s p b ∧ numI s p b k = 0 from ⟨if_neg (fun x => hf x.1), if_pos hf, if_neg (fun x => hf x.1)⟩)
    clear hf
    go_enter Try.func12, Try.ntmps12
    go_wp2_with fail
    obtain ⟨w0, hw0⟩ : ∃ w0, w0 = (w.alloc (.cells #[.string s, .int .i64 p, .int .i64 b] 23)).alloc (.cells #[.string { data := #[] }, .int .i64 0, .int .i64 0] 23) := ⟨_, rfl⟩
    rw [← hw0]
    have x0 : Ext w w0 := hw0 ▸ (Ext.alloc _ _).al _
    have B2 : Hid (RBox w0 w.heap.size s p b) := Lib.hid (hw0 ▸ (RBox.new w 23 s p b).ext (Ext.alloc _ _))
    have B4 : Hid (RBox w0 (w.heap.size + 1) { data := #[] } 0 0) := Lib.hid (hw0 ▸ by simpa using RBox.new (w.alloc (.cells #[.string s, .int .i64 p, .int .i64 b] 23)) 23 { data := #[] } 0 0)
    clear hw0
    refine (bad_any _ s p b).mono ?_
    rintro e w1 ⟨rfl, xx⟩
    have B2 := Lib.hid (B2.out.ext xx)
    have B4 := Lib.hid (B4.out.ext xx)
    have x0 := x0.trans xx
    clear xx
    obtain ⟨c0, c1, c2⟩ := B2.out.cells
    go_wp2_with fail
    refine region_held none [(0, true), (1, true), (2, false), (3, false)] [4, 5] (by kernel_rfl) (by kernel_rfl) (fun _ _ d _ _ h => by cases d <;> exact h) (fun W hW => ?_)
    simp only [pick, pickF, List.getElem?_cons_zero, List.getElem?_cons_succ]
    have B2 : Hid (RBox W _ _ _ _) := Lib.hid (hW ▸ B2.out.ext (Ext.drew _))
    have B4 : Hid (RBox W _ _ _ _) := Lib.hid (hW ▸ B4.out.ext (Ext.drew _))
    have x0 : Ext w W := hW ▸ x0.dr
    clear hW c0 c1 c2
    iterate 2
      refine held_yes (Gr.refl none W) _ rfl (fun w1 hw1 => by obtain ⟨c0, c1, c2⟩ := B2.out.seen hw1; unfold Oper.quietAt; go_simp; rfl) ?_
      simp only [Act.put, List.setIfInBounds_toArray, List.set_cons_zero, List.set_cons_succ]
    refine held_step rfl (fun K hK => ?_)
    go_simp
    refine (bad_any _ s p b).mono ?_
    rintro e w2 ⟨rfl, y2⟩
    refine hK _ _ (y2.gr _) ?_
    clear hK K
    refine held_step rfl (fun K hK => ?_)
    go_simp
    refine (with_any _ s p b _).mono ?_
    rintro e w3 ⟨rfl, y3⟩
    refine hK _ _ ((y2.trans y3).gr _) ?_
    clear hK K
    refine held_nil ?_
    have B2 := Lib.hid (B2.out.ext (y2.trans y3))
    have B4 := Lib.hid (B4.out.ext (y2.trans y3))
    have x0 := x0.trans (y2.trans y3)
    clear y2 y3
    obtain ⟨c0, c1, c2⟩ := B2.out.cells
    obtain ⟨r0, r1, r2⟩ := B4.out.cells
    obtain ⟨f0, f1, f2⟩ := B4.out.free
    go_wp2_with fail
    refine bodyPost_ret (v := .tuple #[rdV s p (faultI s p b), .int .i64 0]) (by simp [results, Try.results12, go_sem, f0, f1, f2, r0, r1, r2]) rfl ⟨by rw [HN.out.1, HN.out.2.1, HN.out.2.2], ?_⟩
    repeat refine Ext.set ?_ (by omega) _
    exact x0
  case' pos =>
    have hp := fault_zero hf
    have hl := left_ok hf
    have HF := Lib.hid hf
    have hb := hp.1
    by_cases hw : wideB k = true
    case' neg =>
      have hwf : wideB k = false := by simpa using hw
      have HN := Lib.hid (show numP s p b k = p ∧ numE s p b k = 2 ∧ numI s p b k = 0 from ⟨if_neg (fun x => hw x.2.1), by unfold numE; rw [if_neg (by simp [hf]), if_pos hwf], if_neg (fun x => hw x.2.1)⟩)
      have HW := Lib.hid hwf
      clear hf hw hl hp hb hwf
      go_enter Try.func12, Try.ntmps12
      go_wp2_with fail
      obtain ⟨w0, hw0⟩ : ∃ w0, w0 = (w.alloc (.cells #[.string s, .int .i64 p, .int .i64 b] 23)).alloc (.cells #[.string { data := #[] }, .int .i64 0, .int .i64 0] 23) := ⟨_, rfl⟩
      rw [← hw0]
      have x0 : Ext w w0 := hw0 ▸ (Ext.alloc _ _).al _
      have B2 : Hid (RBox w0 w.heap.size s p b) := Lib.hid (hw0 ▸ (RBox.new w 23 s p b).ext (Ext.alloc _ _))
      have B4 : Hid (RBox w0 (w.heap.size + 1) { data := #[] } 0 0) := Lib.hid (hw0 ▸ by simpa using RBox.new (w.alloc (.cells #[.string s, .int .i64 p, .int .i64 b] 23)) 23 { data := #[] } 0 0)
      clear hw0
      refine (bad_any _ s p b).mono ?_
      rintro e w1 ⟨rfl, xx⟩
      have B2 := Lib.hid (B2.out.ext xx)
      have B4 := Lib.hid (B4.out.ext xx)
      have x0 := x0.trans xx
      clear xx
      rw [HF.out]
      obtain ⟨c0, c1, c2⟩ := B2.out.cells
      go_wp2_with fail
      refine (rwide_any _ k).mono ?_
      rintro e w1 ⟨rfl, rfl⟩
      rw [HW.out]
      go_wp2_with fail
      refine (with_any _ s p b 2).mono ?_
      rintro e w2 ⟨rfl, xx⟩
      have B2 := Lib.hid (B2.out.ext xx)
      have B4 := Lib.hid (B4.out.ext xx)
      have x0 := x0.trans xx
      clear xx
      obtain ⟨c0, c1, c2⟩ := B2.out.cells
      obtain ⟨r0, r1, r2⟩ := B4.out.cells
      obtain ⟨f0, f1, f2⟩ := B4.out.free
      go_wp2_with fail
      refine bodyPost_ret (v := .tuple #[rdV s p 2, .int .i64 0]) (by simp [results, Try.results12, go_sem, f0, f1, f2, r0, r1, r2]) rfl ⟨by rw [HN.out.1, HN.out.2.1, HN.out.2.2], ?_⟩
      repeat refine Ext.set ?_ (by omega) _
      exact x0
    case' pos =>
      have HW := Lib.hid hw
      by_cases hk : k ≤ leftI s p b
      case' neg =>
        have HN := Lib.hid (show numP s p b k = p ∧ numE s p b k = 3 ∧ numI s p b k = 0 from ⟨if_neg (fun x => hk x.2.2), by unfold numE; rw [if_neg (by simp [hf]), if_neg (by simp [hw]), if_neg hk], if_neg (fun x => hk x.2.2)⟩)
        have hlt : leftI s p b < k := by omega
        clear hf hw hl hp hb hk
        go_enter Try.func12, Try.ntmps12
        go_wp2_with fail
        obtain ⟨w0, hw0⟩ : ∃ w0, w0 = (w.alloc (.cells #[.string s, .int .i64 p, .int .i64 b] 23)).alloc (.cells #[.string { data := #[] }, .int .i64 0, .int .i64 0] 23) := ⟨_, rfl⟩
        rw [← hw0]
        have x0 : Ext w w0 := hw0 ▸ (Ext.alloc _ _).al _
        have B2 : Hid (RBox w0 w.heap.size s p b) := Lib.hid (hw0 ▸ (RBox.new w 23 s p b).ext (Ext.alloc _ _))
        have B4 : Hid (RBox w0 (w.heap.size + 1) { data := #[] } 0 0) := Lib.hid (hw0 ▸ by simpa using RBox.new (w.alloc (.cells #[.string s, .int .i64 p, .int .i64 b] 23)) 23 { data := #[] } 0 0)
        clear hw0
        refine (bad_any _ s p b).mono ?_
        rintro e w1 ⟨rfl, xx⟩
        have B2 := Lib.hid (B2.out.ext xx)
        have B4 := Lib.hid (B4.out.ext xx)
        have x0 := x0.trans xx
        clear xx
        rw [HF.out]
        obtain ⟨c0, c1, c2⟩ := B2.out.cells
        go_wp2_with fail
        refine (rwide_any _ k).mono ?_
        rintro e w1 ⟨rfl, rfl⟩
        rw [HW.out]
        go_wp2_with fail
        refine (rleft_any _ s p b hs).mono ?_
        rintro e w3 ⟨rfl, xx⟩
        have B2 := Lib.hid (B2.out.ext xx)
        have B4 := Lib.hid (B4.out.ext xx)
        have x0 := x0.trans xx
        clear xx
        obtain ⟨c0, c1, c2⟩ := B2.out.cells
        go_wp2_with fail
        refine (with_any _ s p b 3).mono ?_
        rintro e w2 ⟨rfl, xx⟩
        have B2 := Lib.hid (B2.out.ext xx)
        have B4 := Lib.hid (B4.out.ext xx)
        have x0 := x0.trans xx
        clear xx
        obtain ⟨c0, c1, c2⟩ := B2.out.cells
        obtain ⟨r0, r1, r2⟩ := B4.out.cells
        obtain ⟨f0, f1, f2⟩ := B4.out.free
        go_wp2_with fail
        refine bodyPost_ret (v := .tuple #[rdV s p 3, .int .i64 0]) (by simp [results, Try.results12, go_sem, f0, f1, f2, r0, r1, r2]) rfl ⟨by rw [HN.out.1, HN.out.2.1, HN.out.2.2], ?_⟩
        repeat refine Ext.set ?_ (by omega) _
        exact x0
      case' pos =>
        have HN := Lib.hid (show numP s p b k = p + k ∧ numE s p b k = 0 ∧ numI s p b k = numN s p.toNat k.toNat from ⟨if_pos ⟨hf, hw, hk⟩, by unfold numE; rw [if_neg (by simp [hf]), if_neg (by simp [hw]), if_pos hk], if_pos ⟨hf, hw, hk⟩⟩)
        have hwb := wide_bounds hw
        obtain ⟨P, rfl⟩ : ∃ P : Nat, p = P := ⟨p.toNat, by omega⟩
        obtain ⟨K, rfl⟩ : ∃ K : Nat, k = K := ⟨k.toNat, by omega⟩
        subst hb
        have hK : K ≤ 6 := by omega
        have hPK : P + K ≤ s.size := by omega
        have hlt : ¬ leftI s P 0 < K := by omega
        have HK := Lib.hid (And.intro hK hPK)
        clear hf hw hl hp hk hwb hPK hK
        go_enter Try.func12, Try.ntmps12
        go_wp2_with fail
        obtain ⟨w0, hw0⟩ : ∃ w0, w0 = (w.alloc (.cells #[.string s, .int .i64 P, .int .i64 0] 23)).alloc (.cells #[.string { data := #[] }, .int .i64 0, .int .i64 0] 23) := ⟨_, rfl⟩
        rw [← hw0]
        have x0 : Ext w w0 := hw0 ▸ (Ext.alloc _ _).al _
        have B2 : Hid (RBox w0 w.heap.size s P 0) := Lib.hid (hw0 ▸ (RBox.new w 23 s P 0).ext (Ext.alloc _ _))
        have B4 : Hid (RBox w0 (w.heap.size + 1) { data := #[] } 0 0) := Lib.hid (hw0 ▸ by simpa using RBox.new (w.alloc (.cells #[.string s, .int .i64 P, .int .i64 0] 23)) 23 { data := #[] } 0 0)
        clear hw0
        refine (bad_any _ s P 0).mono ?_
        rintro e w1 ⟨rfl, xx⟩
        have B2 := Lib.hid (B2.out.ext xx)
        have B4 := Lib.hid (B4.out.ext xx)
        have x0 := x0.trans xx
        clear xx
        rw [HF.out]
        obtain ⟨c0, c1, c2⟩ := B2.out.cells
        go_wp2_with fail
        refine (rwide_any _ K).mono ?_
        rintro e w1 ⟨rfl, rfl⟩
        rw [HW.out]
        go_wp2_with fail
        refine (rleft_any _ s P 0 hs).mono ?_
        rintro e w3 ⟨rfl, xx⟩
        have B2 := Lib.hid (B2.out.ext xx)
        have B4 := Lib.hid (B4.out.ext xx)
        have x0 := x0.trans xx
        clear xx
        obtain ⟨c0, c1, c2⟩ := B2.out.cells
        go_wp2_with fail
        clear c0 c1 c2 hlt
        have hsz := B4.out.lt
        go_loopw [6, 7] (fun n i wr => ∃ j : Nat, n = .int .i64 (numN s P j) ∧ i = .int .i64 j ∧ j ≤ K ∧ RBox wr w.heap.size s (P + j) 0 ∧ RBox wr (w.heap.size + 1) { data := #[] } 0 0 ∧ Ext w wr) (fun _ i _ => K - (intOf i).toNat)
        case atStart => exact ⟨0, rfl, rfl, by omega, by simpa using B2.out, B4.out, x0⟩
        case round =>
          clear B2 B4 x0
          obtain ⟨j, rfl, rfl, hj, b2, b4, hx⟩ := hrel
          by_cases hlt : j < K
          · have hlt2 : (j : Int) < K := by omega
            have hb := byte_bounds s (P + j)
            have hn := num_bounds s P j
            have hp6 : (256 : Int) ^ j ≤ 256 ^ 5 := by
              have h5 : j ≤ 5 := by have := HK.out; omega
              rcases (by omega : j = 0 ∨ j = 1 ∨ j = 2 ∨ j = 3 ∨ j = 4 ∨ j = 5) with rfl | rfl | rfl | rfl | rfl | rfl <;> decide
            have hn2 : numN s P j < 1208925819614 := by omega
            have hix := fun w : World => index_byte w s P j (by have := HK.out; omega)
            have hPj : (P : Int) + j < 2000000 := by have := HK.out; omega
            have B2 := Lib.hid b2
            have B4 := Lib.hid b4
            obtain ⟨c0, c1, c2⟩ := b2.cells
            obtain ⟨g0, g1, g2⟩ := b2.free
            have HP := Lib.hid hn2
            clear b2 b4 hp6 hn2
            have HB := Lib.hid (And.intro hb hn)
            go_wp2_with fail
            refine ⟨⟨j + 1, ?_, rfl, by omega, ?_, B4.out.other (by omega), Ext.set hx (by omega) _⟩, by simp [intOf]; omega⟩
            · refine congrArg (Value.int .i64) ?_
              have := HB.out
              simp only [numN, wrap64]
              have h5 := HP.out
              omega
            · have h := B2.out.put1 ((P : Int) + j + 1)
              rw [show (P : Int) + ((j + 1 : Nat) : Int) = P + j + 1 by omega]
              exact h
          · have hlt2 : ¬ (j : Int) < K := by omega
            have hje : j = K := by omega
            have HJ := Lib.hid hje
            clear hje
            obtain ⟨c0, c1, c2⟩ := b2.cells
            obtain ⟨r0, r1, r2⟩ := b4.cells
            obtain ⟨f0, f1, f2⟩ := b4.free
            clear b2 b4
            go_wp2_with fail
            refine bodyPost_ret (v := .tuple #[rdV s (P + j) 0, .int .i64 (numN s P j)]) (by simp [results, Try.results12, go_sem, r0, r1, r2, f0, f1, f2, c0, c1, c2]) rfl ⟨by rw [HN.out.1, HN.out.2.1, HN.out.2.2, HJ.out]; rfl, ?_⟩
            repeat refine Ext.set ?_ (by omega) _
            exact hx
end Go.Proofs.Ytfkfnhehbhebeaa
