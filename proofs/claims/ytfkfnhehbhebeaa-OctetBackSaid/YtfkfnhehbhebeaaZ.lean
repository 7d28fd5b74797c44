/- What was laid is read, one behind the other: the walk. -/
import Derived.Test.YtfkfnhehbhebeaaY
import Derived.Laws.Concat
namespace Go.Proofs.Ytfkfnhehbhebeaa
set_option linter.unusedSimpArgs false
set_option linter.unusedVariables false
open Go.RowKit

theorem BytesAt.form {w : World} {v : Value} {l : List UInt8} (h : BytesAt w v l) : ∃ a c, v = .slice a l.length c := by
  rcases h with ⟨rfl, rfl⟩ | ⟨g, c, rfl, _⟩
  · exact ⟨none, 0, rfl⟩
  · exact ⟨_, c, rfl⟩

theorem layE_pow' {N K : Nat} (hw : wideB (K : Int) = true) : layE N K = if 0 < N / 256 ^ K then 8 else 0 := by
  have hp : 0 < 256 ^ K := Nat.pow_pos (by decide)
  unfold layE
  rw [if_neg (by simp [hw])]
  have e : ((N : Int) < 0 ∨ (256 : Int) ^ (K : Int).toNat ≤ N) ↔ 0 < N / 256 ^ K := by
    rw [Nat.div_pos_iff]
    simp only [Int.toNat_natCast]
    have : (256 : Int) ^ K = ((256 ^ K : Nat) : Int) := by simp
    rw [this]
    omega
  simp only [e]

theorem layL_length' (N j : Nat) : (layL N j).length = j := by simp [layL]

theorem bytes_take {w : World} {a : Option Addr} {k c : Nat} {l : List UInt8} (h : BytesAt w (.slice a (k + 1) c) l) (hl : l.length = k + 1) : BytesAt w (.slice a k c) (l.take k) := by
  rcases h with ⟨rfl, h⟩ | ⟨g, c', hv, hc⟩
  · simp at hl
  · simp at hv
    obtain ⟨rfl, _, rfl⟩ := hv
    refine .inr ⟨g, c, by simp; omega, fun j hj => ?_⟩
    have hj' : j < l.length := by simp at hj; omega
    rw [hc j hj', List.getElem_take]

theorem lay_small {N K : Nat} (hw : wideB (K : Int) = true) (h : N < 256 ^ K) : layE N K = 0 := by
  rw [layE_pow' hw]
  rw [if_neg]
  rw [Nat.div_eq_of_lt h]
  decide

theorem own_cap {w : World} {base : Nat} {v : Value} {l : List UInt8} (h : w.ownsRow base 5 1 v l.length (bC l)) : ∃ a c, v = .slice a l.length c ∧ l.length ≤ c := by
  obtain ⟨_, h | ⟨g, cap, cur, hv, _, hb, hn, _⟩⟩ := h
  · obtain ⟨rfl, h0⟩ := h
    exact ⟨none, 0, by rw [h0], by omega⟩
  · exact ⟨_, cap, hv, hn⟩

set_option maxRecDepth 100000 in
set_option maxHeartbeats 8000000 in
theorem say_cap (w : World) (s : ByteArray) (m : Int) (hs : s.size ≤ 1000000) (hm : ¬ min m 255 < s.size) : Calls Try.prog 26 #[.string s, .int .i64 m] w fun e w' =>
    ∃ a c, e = .returned (.tuple #[.slice a (sayL s m).length c, .int .i64 (sayE s m)]) ∧ (sayL s m).length ≤ c ∧ BytesAt w' (.slice a (sayL s m).length c) (sayL s m) ∧ Ext w w' := by
  obtain ⟨i0, hi, hz0, hz1, hz2⟩ := info_parts info5
  have HE := Lib.hid (show sayE s m = 0 from if_neg hm)
  have hsz : s.size ≤ 255 := by omega
  have hw8 : IntKind.u8.wrap (s.size : Int) = s.size := by rw [IntKind.wrap_u8]; omega
  by_cases h255 : (255 : Int) < m
  case' pos => have h256 : ¬ (255 : Int) < s.size := by omega
  case' neg => have h256 : ¬ m < s.size := by omega
  all_goals
    go_enter Try.func26, Try.ntmps26
    go_wp2_with (at_builtin; refine Lib.wpList_append_own_string _ rfl _ _ 46 9 rfl w.heap.size 5 i0 Try.underlying46 Try.underlying9 hi hz0 hz1 hz2 _ 1 [.int .u8 s.size] rfl (World.ownsRow_lit w _ 1 (Nat.le_refl _) (by decide) rfl) s rfl ?c1 ?c2 ?c3 ?_)
    case c1 => unfold maxLen; omega
    case c2 => omega
    intro v' w' hown hgrow _
    have x0 : Ext w w' := Below.grown (Ext.alloc w _) hgrow (by simp) (fun q hq => by simp [Value.ownBlock] at hq; omega)
    have hl : sayL s m = UInt8.ofNat s.size :: s.data.toList := if_pos HE.out
    obtain ⟨av, cv, hv, hcap⟩ : ∃ a c, v' = .slice a (sayL s m).length c ∧ (sayL s m).length ≤ c := by
      refine own_cap (base := w.heap.size) (w := w') ?_
      rw [hl]
      have e1 : (UInt8.ofNat s.size :: s.data.toList).length = 1 + s.size := by simp [size_list]; omega
      have e2 : bC (UInt8.ofNat s.size :: s.data.toList) = [Value.int .u8 s.size] ++ Lib.strCells s := by
        simp [bC, Lib.strCells]
        omega
      rw [e1, e2]
      exact hown
    have hb : BytesAt w' v' (sayL s m) := by
      refine own_bytes (base := w.heap.size) ?_
      rw [hl]
      have e1 : (UInt8.ofNat s.size :: s.data.toList).length = 1 + s.size := by simp [size_list]; omega
      have e2 : bC (UInt8.ofNat s.size :: s.data.toList) = [Value.int .u8 s.size] ++ Lib.strCells s := by
        simp [bC, Lib.strCells]
        omega
      rw [e1, e2]
      exact hown
    subst hv
    clear hown hgrow
    go_wp2_with fail
    refine bodyPost_ret (v := .tuple #[.slice av (sayL s m).length cv, .int .i64 0]) (by simp [results, Try.results26, go_sem]) rfl ⟨av, cv, by rw [HE.out], hcap, hb, x0⟩

set_option maxRecDepth 100000 in
set_option maxHeartbeats 20000000 in
theorem back_walk (w : World) (N : Nat) (s t : ByteArray) (hN : N < 4294967296) : Calls Try.prog 6 #[.int .u32 N, .string s, .string t] w fun e w' => e = .returned (.bool true) ∧ Ext w w' := by
  by_cases hl : (200 : Int) < s.size
  case' pos =>
    go_enter Try.func6, Try.ntmps6
    go_wp2_with fail
    refine (awake_any _).mono ?_
    rintro e w1 ⟨rfl, x1⟩
    go_wp2_with fail
    go_ret
    exact ⟨rfl, x1⟩
  by_cases hl2 : (200 : Int) < t.size
  case' pos =>
    go_enter Try.func6, Try.ntmps6
    go_wp2_with fail
    refine (awake_any _).mono ?_
    rintro e w1 ⟨rfl, x1⟩
    go_wp2_with fail
    go_ret
    exact ⟨rfl, x1⟩
  have hs : s.size ≤ 200 := by omega
  have ht : t.size ≤ 200 := by omega
  have hs1 : s.size ≤ 1000000 := by omega
  have L1 := Lib.hid (show layE N 6 = 0 ∧ layV N 6 = layL N 6 from by
    have h : layE N ((6 : Nat) : Int) = 0 := lay_small rfl (by omega)
    exact ⟨h, if_pos h⟩)
  obtain ⟨M, hM⟩ : ∃ M, M = N % 65536 := ⟨_, rfl⟩
  have L3 := Lib.hid (show layE (M : Int) 2 = 0 ∧ layV (M : Int) 2 = layL M 2 from by
    have h : layE (M : Int) ((2 : Nat) : Int) = 0 := lay_small rfl (by omega)
    exact ⟨h, if_pos h⟩)
  have L2 := Lib.hid (show sayE s 255 = 0 ∧ sayL s 255 = UInt8.ofNat s.size :: s.data.toList from by
    have h : sayE s 255 = 0 := if_neg (by omega)
    exact ⟨h, if_pos h⟩)
  have HM := Lib.hid hM
  clear hM
  go_enter Try.func6, Try.ntmps6
  go_wp2_with fail
  refine (lay_any _ N 6).mono ?_
  rintro e w1 ⟨v1, rfl, b1, x0⟩
  rw [L1.out.2] at b1
  rw [L1.out.1]
  obtain ⟨a1, c1, rfl⟩ := b1.form
  rw [layL_length']
  rw [layL_length'] at b1
  have V1 := Lib.hid b1
  clear b1
  go_wp2_with fail
  refine (say_cap _ s 255 hs1 (by omega)).mono ?_
  rintro e w2 ⟨a2, c2, rfl, hc2, b2, x1⟩
  rw [L2.out.1]
  have hl2' : (sayL s 255).length = s.size + 1 := by rw [L2.out.2, List.length_cons, size_list]
  rw [hl2']
  rw [hl2'] at b2 hc2
  have V2 := Lib.hid b2
  have V1 := Lib.hid (V1.out.ext x1)
  have x0 := x0.trans x1
  clear b2 x1 hl2'
  go_wp2_with fail
  rw [show (N : Int) % 65536 = ((N % 65536 : Nat) : Int) by omega]
  rw [← HM.out]
  refine (lay_any _ M 2).mono ?_
  rintro e w3 ⟨v3, rfl, b3, x1⟩
  rw [L3.out.2] at b3
  rw [L3.out.1]
  obtain ⟨a3, c3, rfl⟩ := b3.form
  rw [layL_length']
  rw [layL_length'] at b3
  have k3 := b3.back
  have V2 := Lib.hid (V2.out.ext x1)
  have k2 := V2.out.back
  have k1 := (V1.out.ext x1).back
  have x0 := x0.trans x1
  clear b3 x1
  obtain ⟨X1, hX1⟩ : ∃ x : ByteArray, x = ⟨(layL N 6).toArray⟩ := ⟨_, rfl⟩
  obtain ⟨X2, hX2⟩ : ∃ x : ByteArray, x = ⟨(sayL s 255).toArray⟩ := ⟨_, rfl⟩
  obtain ⟨X3, hX3⟩ : ∃ x : ByteArray, x = ⟨(layL M 2).toArray⟩ := ⟨_, rfl⟩
  rw [← hX1] at k1
  rw [← hX2] at k2
  rw [← hX3] at k3
  have z1 : X1.size = 6 := by rw [hX1, txt_size, layL_length']
  have z2 : X2.size = s.size + 1 := by rw [hX2, txt_size, L2.out.2, List.length_cons, size_list]
  have z3 : X3.size = 2 := by rw [hX3, txt_size, layL_length']
  have HX := Lib.hid (And.intro hX1 (And.intro hX2 hX3))
  clear hX1 hX2 hX3 V1
  go_wp2_with fail
  obtain ⟨A, hA⟩ : ∃ A : ByteArray, A = X1 ++ X2 ++ X3 ++ t := ⟨_, rfl⟩
  rw [← hA]
  have hAl : A = txt (layL N 6 ++ (UInt8.ofNat s.size :: s.data.toList) ++ layL M 2 ++ t.data.toList) := by
    rw [hA, HX.out.1, HX.out.2.1, HX.out.2.2, L2.out.2]
    conv => lhs; rw [← txt_data t]
    simp only [ByteArray.mk_append_mk]
  have hAs : A.size = s.size + 9 + t.size := by
    rw [hAl, txt_size]
    simp only [List.length_append, List.length_cons, layL_length', size_list]
    omega
  have hA1 : A.size ≤ 1000000 := by omega
  have C1 : Hid (∀ w, Calls Try.prog 11 #[rdV A 0 0, .int .i64 6] w fun e w' => e = .returned (.tuple #[rdV A 6 0, .int .i64 N]) ∧ Ext w w') := Lib.hid (by
    intro w
    have h := num_any w A 0 0 6 hA1
    obtain ⟨h1, h2, h3⟩ := num_in (s := A) (p := 0) (k := 6) rfl (by omega)
    have h4 : numN A 0 6 = N := by
      have h := num_read [] ((UInt8.ofNat s.size :: s.data.toList) ++ layL M 2 ++ t.data.toList) N 6
      rw [Nat.mod_eq_of_lt (by omega)] at h
      rw [hAl]
      simpa [List.append_assoc] using h
    have e1 : numP A 0 0 6 = 6 := h1
    have e2 : numE A 0 0 6 = 0 := h2
    have e3 : numI A 0 0 6 = N := h3.trans h4
    rw [e1, e2, e3] at h
    exact h)
  obtain ⟨p1, hp1⟩ : ∃ p1 : Nat, p1 = s.size + 7 := ⟨_, rfl⟩
  obtain ⟨p2, hp2⟩ : ∃ p2 : Nat, p2 = s.size + 9 := ⟨_, rfl⟩
  have C2 : Hid (∀ w, Calls Try.prog 13 #[rdV A 6 0, .int .i64 200] w fun e w' => e = .returned (.tuple #[rdV A p1 0, .string s]) ∧ Ext w w') := Lib.hid (by
    intro w
    have h := text_any w A 6 0 200 hA1
    have hb : byteI A 6 = s.size := by
      rw [hAl, byte_txt _ 6 (by simp [layL_length'])]
      simp [layL_length']
      omega
    obtain ⟨h1, h2, h3⟩ := text_in (s := A) (p := 6) (n := s.size) (m := 200) hb (by omega) (by omega)
    have e1 : textP A 6 0 200 = p1 := by rw [hp1]; refine Eq.trans h1 ?_; omega
    have e2 : textE A 6 0 200 = 0 := h2
    have e3 : textS A 6 0 200 = s := by
      refine Eq.trans h3 ?_
      rw [hAl, extract_txt]
      have : (layL N 6 ++ (UInt8.ofNat s.size :: s.data.toList) ++ layL M 2 ++ t.data.toList) = (layL N 6 ++ [UInt8.ofNat s.size]) ++ (s.data.toList ++ (layL M 2 ++ t.data.toList)) := by simp
      rw [this, List.drop_left' (by simp [layL_length']), show 6 + 1 + s.size - (6 + 1) = s.size by omega, List.take_left' (size_list s), txt_data]
    rw [e1, e2, e3] at h
    exact h)
  have C3 : Hid (∀ w, Calls Try.prog 11 #[rdV A p1 0, .int .i64 2] w fun e w' => e = .returned (.tuple #[rdV A p2 0, .int .i64 M]) ∧ Ext w w') := Lib.hid (by
    intro w
    have h := num_any w A p1 0 2 hA1
    obtain ⟨h1, h2, h3⟩ := num_in (s := A) (p := p1) (k := 2) rfl (by omega)
    have h4 : numN A p1 2 = M := by
      have h := num_read (layL N 6 ++ (UInt8.ofNat s.size :: s.data.toList)) t.data.toList M 2
      have hM2 : M < 256 ^ 2 := by rw [HM.out]; exact Nat.mod_lt _ (by decide)
      rw [Nat.mod_eq_of_lt hM2] at h
      rw [show (layL N 6 ++ (UInt8.ofNat s.size :: s.data.toList)).length = p1 by simp [layL_length', size_list]; omega] at h
      rw [hAl]
      simpa [List.append_assoc] using h
    have e1 : numP A p1 0 2 = p2 := by refine Eq.trans h1 ?_; omega
    have e2 : numE A p1 0 2 = 0 := h2
    have e3 : numI A p1 0 2 = M := h3.trans h4
    rw [e1, e2, e3] at h
    exact h)
  have C4 : Hid (∀ w, Calls Try.prog 15 #[rdV A p2 0] w fun e w' => e = .returned (.tuple #[rdV A A.size 0, .string t]) ∧ Ext w w') := Lib.hid (by
    intro w
    have h := rest_any w A p2 0 hA1
    obtain ⟨h1, h2, h3⟩ := rest_in (s := A) (p := p2) (by omega)
    have e3 : restS A p2 0 = t := by
      refine Eq.trans h3 ?_
      rw [hAs, hAl, extract_txt, List.drop_left' (by simp [layL_length', size_list]; omega), List.take_of_length_le (by rw [size_list]; omega), txt_data]
    rw [h1, h2, e3] at h
    exact h)
  have C5 : Hid (∀ w, Calls Try.prog 20 #[rdV A A.size 0] w fun e w' => e = .returned (.int .i64 0) ∧ Ext w w') := Lib.hid (by
    intro w
    have h := done_any w A A.size 0 hA1
    rw [done_in] at h
    exact h)
  clear hA hAl hAs hA1 hp1 hp2 z1 z2 z3 k1 k2 k3
  refine (open_any _ A).mono ?_
  rintro e w4 ⟨rfl, x1⟩
  have V2 := Lib.hid (V2.out.ext x1)
  have x0 := x0.trans x1
  clear x1
  go_wp2_with fail
  refine (C1.out _).mono ?_
  rintro e w5 ⟨rfl, x1⟩
  have V2 := Lib.hid (V2.out.ext x1)
  have x0 := x0.trans x1
  clear x1
  go_wp2_with fail
  have y5 : Ext w5 (w5.alloc (.cells #[.string A, .int .i64 6, .int .i64 0] 27)) := Ext.alloc _ _
  have B := Lib.hid (RBox.new w5 27 A 6 0)
  generalize w5.alloc (.cells #[.string A, .int .i64 6, .int .i64 0] 27) = w6 at *
  obtain ⟨g, hg⟩ : ∃ g, g = w5.heap.size := ⟨_, rfl⟩
  rw [← hg] at B
  rw [← hg]
  have hgw : w5.heap.size ≤ g := by omega
  clear hg
  refine (C2.out _).mono ?_
  rintro e w7 ⟨rfl, x1⟩
  have B := Lib.hid (B.out.ext x1)
  have y5 := y5.trans x1
  clear x1
  obtain ⟨q0, q1, q2⟩ := B.out.cells
  obtain ⟨f0, f1, f2⟩ := B.out.free
  have y' : Ext w5 (((w7.setCell ⟨g, 0, none⟩ (.string A)).setCell ⟨g, 1, none⟩ (.int .i64 p1)).setCell ⟨g, 2, none⟩ (.int .i64 0)) := Ext.set (Ext.set (Ext.set y5 hgw _) hgw _) hgw _
  go_wp2_with fail
  have B := Lib.hid (B.out.put A p1 0)
  have y5 := y'
  generalize (((w7.setCell ⟨g, 0, none⟩ (.string A)).setCell ⟨g, 1, none⟩ (.int .i64 p1)).setCell ⟨g, 2, none⟩ (.int .i64 0)) = w8 at *
  clear y' q0 q1 q2 f0 f1 f2
  refine (C3.out _).mono ?_
  rintro e w9 ⟨rfl, x1⟩
  have B := Lib.hid (B.out.ext x1)
  have y5 := y5.trans x1
  clear x1
  obtain ⟨q0, q1, q2⟩ := B.out.cells
  obtain ⟨f0, f1, f2⟩ := B.out.free
  have y' : Ext w5 (((w9.setCell ⟨g, 0, none⟩ (.string A)).setCell ⟨g, 1, none⟩ (.int .i64 p2)).setCell ⟨g, 2, none⟩ (.int .i64 0)) := Ext.set (Ext.set (Ext.set y5 hgw _) hgw _) hgw _
  go_wp2_with fail
  have B := Lib.hid (B.out.put A p2 0)
  have y5 := y'
  generalize (((w9.setCell ⟨g, 0, none⟩ (.string A)).setCell ⟨g, 1, none⟩ (.int .i64 p2)).setCell ⟨g, 2, none⟩ (.int .i64 0)) = w10 at *
  clear y' q0 q1 q2 f0 f1 f2
  refine (C4.out _).mono ?_
  rintro e w11 ⟨rfl, x1⟩
  have B := Lib.hid (B.out.ext x1)
  have y5 := y5.trans x1
  clear x1
  obtain ⟨q0, q1, q2⟩ := B.out.cells
  obtain ⟨f0, f1, f2⟩ := B.out.free
  have y' : Ext w5 (((w11.setCell ⟨g, 0, none⟩ (.string A)).setCell ⟨g, 1, none⟩ (.int .i64 A.size)).setCell ⟨g, 2, none⟩ (.int .i64 0)) := Ext.set (Ext.set (Ext.set y5 hgw _) hgw _) hgw _
  have k0 := (bytes_take (V2.out.ext y') (by rw [L2.out.2, List.length_cons, size_list])).back
  have hk0 : (0 : Int) ≤ s.size := by omega
  have hk1 : (s.size : Int) ≤ c2 := by omega
  obtain ⟨Y, hY⟩ : ∃ y : ByteArray, y = ⟨((sayL s 255).take s.size).toArray⟩ := ⟨_, rfl⟩
  rw [← hY] at k0
  have HY := Lib.hid hY
  clear hY
  go_wp2_with fail
  have B := Lib.hid (B.out.put A A.size 0)
  have y5 := y'
  clear k0
  generalize (((w11.setCell ⟨g, 0, none⟩ (.string A)).setCell ⟨g, 1, none⟩ (.int .i64 A.size)).setCell ⟨g, 2, none⟩ (.int .i64 0)) = w12 at *
  clear y' q0 q1 q2 f0 f1 f2
  refine (open_any _ Y).mono ?_
  rintro e w13 ⟨rfl, x1⟩
  have B := Lib.hid (B.out.ext x1)
  have y5 := y5.trans x1
  clear x1
  go_wp2_with fail
  have hYE : textE Y 0 0 200 = 3 := by rw [HY.out, L2.out.2]; exact cut_text s 200 hs (by decide)
  have hYs : Y.size ≤ 1000000 := by
    rw [HY.out]
    show (txt (List.take s.size (sayL s 255))).size ≤ _
    rw [txt_size, List.length_take]
    omega
  refine (text_any _ Y 0 0 200 hYs).mono ?_
  rintro e w14 ⟨rfl, x1⟩
  rw [hYE]
  have B := Lib.hid (B.out.ext x1)
  have y5 := y5.trans x1
  clear x1 hYE hYs HY
  generalize textP Y 0 0 200 = r1 at *
  generalize textS Y 0 0 200 = r3 at *
  obtain ⟨q0, q1, q2⟩ := B.out.cells
  have hMM : (N : Int) % 65536 = (M : Int) := by rw [HM.out]; omega
  have q0 := (Ext.alloc w14 (.cells #[.string Y, .int .i64 r1, .int .i64 3] 27)).cell_some q0
  have q1 := (Ext.alloc w14 (.cells #[.string Y, .int .i64 r1, .int .i64 3] 27)).cell_some q1
  have q2 := (Ext.alloc w14 (.cells #[.string Y, .int .i64 r1, .int .i64 3] 27)).cell_some q2
  go_wp2_with fail
  have B19 := Lib.hid (RBox.new w14 27 Y r1 3)
  have B := Lib.hid (B.out.ext (Ext.alloc w14 (.cells #[.string Y, .int .i64 r1, .int .i64 3] 27)))
  have y5 := y5.al (.cells #[.string Y, .int .i64 r1, .int .i64 3] 27)
  generalize w14.alloc (.cells #[.string Y, .int .i64 r1, .int .i64 3] 27) = w15 at *
  generalize w14.heap.size = g19 at *
  clear q0 q1 q2
  refine (C5.out _).mono ?_
  rintro e w16 ⟨rfl, x1⟩
  obtain ⟨q0, q1, q2⟩ := (B.out.ext x1).cells
  obtain ⟨o0, o1, o2⟩ := (B19.out.ext x1).cells
  have y5 := y5.trans x1
  clear x1
  go_wp2_with fail
  refine (awake_any _).mono ?_
  rintro e w17 ⟨rfl, x1⟩
  go_wp2_with fail
  go_ret
  exact ⟨rfl, (x0.trans y5).trans x1⟩

end Go.Proofs.Ytfkfnhehbhebeaa
