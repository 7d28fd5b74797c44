/- The walk of the law on the two ends of a ring. -/
import Derived.Test.YtdkblgbmbjagfaaH
import Derived.Deep.LoopGhost
namespace Go.Proofs.Ytdkblgbmbjagfaa
open Go.RowKit

/-- The cells of a slice of numbers. -/
def CellsAt (w : World) (a : Option Addr) (l : List Int) : Prop :=
  l = [] ∨ ∃ g o, a = some ⟨g, o, none⟩ ∧ g < w.heap.size ∧ ∀ j, j < l.length → w.cell? ⟨g, o + j, none⟩ = some (.int .i64 (l.getD j 0))

theorem CellsAt.ext {w w' : World} {a : Option Addr} {l : List Int} (h : CellsAt w a l) (hx : Ext w w') : CellsAt w' a l :=
  h.imp id fun ⟨g, o, ha, hg, hc⟩ => ⟨g, o, ha, Nat.lt_of_lt_of_le hg hx.size, fun j hj => hx.cell_some (hc j hj)⟩

theorem CellsAt.get {w : World} {a : Option Addr} {l : List Int} (h : CellsAt w a l) {k : Nat} (hk : k < l.length) : ∃ g o x, a = some ⟨g, o, none⟩ ∧ l[k] = x ∧ g < w.heap.size ∧ w.cell? ⟨g, o + k, none⟩ = some (.int .i64 x) := by
  rcases h with rfl | ⟨g, o, ha, hg, hc⟩
  · simp at hk
  · exact ⟨g, o, _, ha, rfl, hg, by rw [hc k hk]; simp [List.getD_eq_getElem?_getD, hk]⟩

theorem push_take (l : List Int) (k : Nat) (hk : k < l.length) (hl : l.length ≤ 30) : pushL 64 (l.take k).reverse l[k] = (l.take (k + 1)).reverse := by
  have e : fits 64 (l.take k).reverse = true := by simp [fits]; omega
  rw [pushL, if_pos e, List.take_succ_eq_append_getElem hk, List.reverse_append]; rfl

theorem put_take (X m : List Int) (k : Nat) (hk : k < m.length) (hX : X.length ≤ 30) (hm : m.length ≤ 30) : putL 64 (X ++ m.take k) m[k] = X ++ m.take (k + 1) := by
  have e : fits 64 (X ++ m.take k) = true := by simp [fits]; omega
  rw [putL, if_pos e, List.take_succ_eq_append_getElem hk, List.append_assoc]

theorem last_take (X m : List Int) (k : Nat) (hk : k < m.length) : lastV (X ++ m.take (k + 1)) = m[k] ∧ some' (X ++ m.take (k + 1)) = true ∧ (X ++ m.take (k + 1)).dropLast = X ++ m.take k := by
  rw [List.take_succ_eq_append_getElem hk, ← List.append_assoc]
  refine ⟨?_, ?_, ?_⟩
  · rw [lastV, List.getLastD_eq_getLast?, List.getLast?_concat]; rfl
  · rw [some', List.isEmpty_eq_false_iff.2 (List.append_ne_nil_of_right_ne_nil _ (List.cons_ne_nil _ _))]; rfl
  · exact List.dropLast_concat

theorem head_take (l : List Int) (k : Nat) (hk : k < l.length) : headV (l.take (k + 1)).reverse = l[k] ∧ some' (l.take (k + 1)).reverse = true ∧ (l.take (k + 1)).reverse.tail = (l.take k).reverse := by
  rw [List.take_succ_eq_append_getElem hk, List.reverse_append]
  exact ⟨rfl, rfl, rfl⟩

set_option maxHeartbeats 2000000 in
theorem ends_walk (w : World) (a a' : Option Addr) (c c' : Nat) (l m : List Int) (hl : l.length ≤ 30) (hm : m.length ≤ 30) (hA : Hid (CellsAt w a l)) (hB : Hid (CellsAt w a' m)) :
    Calls Try.prog 4 #[.slice a l.length c, .slice a' m.length c'] w fun e w' => e = .returned (.bool true) ∧ Ext w w' := by
  go_enter Try.func4, Try.ntmps4
  go_wp2_with fail
  refine (new_ring _ 64 (by omega) (by omega)).mono ?_
  rintro e w1 ⟨rfl, r1, x1⟩
  generalize hb : w.heap.size = b at r1
  have HB := Lib.hid hb
  clear hb
  go_wp2_with fail
  go_loopw [7] (fun i wr => ∃ k : Nat, k ≤ l.length ∧ i = .int .i64 k ∧ Ring wr b 64 (l.take k).reverse ∧ Ext w wr) (fun i _ => l.length - (intOf i).toNat)
  case atStart => exact ⟨0, by omega, rfl, r1, x1⟩
  case round =>
    obtain ⟨k, hk, rfl, hr, hx⟩ := hrel
    clear r1 x1
    by_cases hlt : k < l.length
    · obtain ⟨g, o, x, rfl, hv, hg, hc⟩ := hA.out.get hlt
      have cx : wr.cell? ⟨g, o + k, none⟩ = some (.int .i64 x) := hx.cell_some hc
      clear hc hg
      have HV := Lib.hid hv
      clear hv
      have hlt2 : (k : Int) < l.length := by omega
      go_wp2_with fail
      refine (push_ring wr b 64 _ x hr).mono ?_
      rintro e w2 ⟨rfl, r2, g2⟩
      go_wp2_with fail
      rw [← HV.out, push_take l k hlt hl] at r2
      have x2 := hx.grownRow g2 (Nat.le_of_eq HB.out)
      clear g2 hr hx
      go_roundw
      case rel => exact ⟨k + 1, by omega, by go_num, r2, x2⟩
      case measure => simp [intOf] <;> omega
    · have e : k = l.length := by omega
      subst e
      rw [List.take_length] at hr
      go_wp2_with fail
      go_loopw [8] (fun i wr => ∃ k : Nat, k ≤ m.length ∧ i = .int .i64 k ∧ Ring wr b 64 (l.reverse ++ m.take k) ∧ Ext w wr) (fun i _ => m.length - (intOf i).toNat)
      case atStart => exact ⟨0, by omega, rfl, by simpa using hr, hx⟩
      case round =>
        clear hr hx
        obtain ⟨k, hk, rfl, hr, hx⟩ := hrel
        by_cases hlt : k < m.length
        · obtain ⟨g, o, x, rfl, hv, hg, hc⟩ := hB.out.get hlt
          have cx : wr.cell? ⟨g, o + k, none⟩ = some (.int .i64 x) := hx.cell_some hc
          clear hc hg
          have HV := Lib.hid hv
          clear hv
          have hlt2 : (k : Int) < m.length := by omega
          go_wp2_with fail
          refine (put_ring wr b 64 _ x hr).mono ?_
          rintro e w2 ⟨rfl, r2, g2⟩
          go_wp2_with fail
          rw [← HV.out, put_take l.reverse m k hlt (by simpa using hl) hm] at r2
          have x2 := hx.grownRow g2 (Nat.le_of_eq HB.out)
          clear g2 hr hx
          go_roundw
          case rel => exact ⟨k + 1, by omega, by go_num, r2, x2⟩
          case measure => simp [intOf] <;> omega
        · have e : k = m.length := by omega
          subst e
          go_wp2_with fail
          refine (len_ring wr b 64 _ hr).mono ?_
          rintro e w' ⟨rfl, rfl⟩
          have hlen : ((l.reverse ++ m.take m.length).length : Int) = (l.length : Int) + m.length := by simp
          rw [hlen]
          go_wp2_with fail
          go_loopw [9] (fun i wr => ∃ k : Nat, k ≤ m.length ∧ i = .int .i64 ((k : Int) - 1) ∧ Ring wr b 64 (l.reverse ++ m.take k) ∧ Ext w wr) (fun i _ => ((intOf i) + 1).toNat)
          case atStart => exact ⟨m.length, by omega, rfl, hr, hx⟩
          case round =>
            clear hr hx hlen
            obtain ⟨k, hk, hi, hr, hx⟩ := hrel
            cases k with
            | succ k =>
              obtain rfl : u9 = .int .i64 k := hi.trans (by rw [show ((k + 1 : Nat) : Int) - 1 = k by omega])
              clear hi
              have hlt : k < m.length := by omega
              obtain ⟨g, o, x, rfl, hv, hg, hc⟩ := hB.out.get hlt
              have cx : wr.cell? ⟨g, o + k, none⟩ = some (.int .i64 x) := hx.cell_some hc
              have HV := Lib.hid hv
              clear hv hg
              have hlt2 : (k : Int) < m.length := by omega
              obtain ⟨t1, t2, t3⟩ := last_take l.reverse m k hlt
              have h := last_ring wr b 64 _ hr
              rw [t1, t2, t3, HV.out] at h
              have H := Lib.hid h
              clear h t1 t2 t3
              go_wp2_with fail
              refine H.out.mono ?_
              rintro e w2 ⟨rfl, r2, g2⟩
              have x2 := hx.grownRow g2 (Nat.le_of_eq HB.out)
              have cx2 : w2.cell? ⟨g, o + k, none⟩ = some (.int .i64 x) := x2.cell_some hc
              clear g2 hr hx H hc
              go_wp2_with fail
              go_roundw
              case rel => exact ⟨k, by omega, rfl, r2, x2⟩
              case measure => simp [intOf] <;> omega
            | zero =>
              obtain rfl : u9 = .int .i64 (-1) := hi
              rw [List.take_zero, List.append_nil] at hr
              go_wp2_with fail
              go_loopw [12] (fun i wr => ∃ k : Nat, k ≤ l.length ∧ i = .int .i64 ((k : Int) - 1) ∧ Ring wr b 64 (l.take k).reverse ∧ Ext w wr) (fun i _ => ((intOf i) + 1).toNat)
              case atStart => exact ⟨l.length, by omega, rfl, by simpa using hr, hx⟩
              case round =>
                clear hr hx hk
                obtain ⟨k, hk, hi, hr, hx⟩ := hrel
                cases k with
                | succ k =>
                  obtain rfl : u12 = .int .i64 k := hi.trans (by rw [show ((k + 1 : Nat) : Int) - 1 = k by omega])
                  clear hi
                  have hlt : k < l.length := by omega
                  obtain ⟨g, o, x, rfl, hv, hg, hc⟩ := hA.out.get hlt
                  have HV := Lib.hid hv
                  clear hv hg
                  have hlt2 : (k : Int) < l.length := by omega
                  obtain ⟨t1, t2, t3⟩ := head_take l k hlt
                  have h := take_ring wr b 64 _ hr
                  rw [t1, t2, t3, HV.out] at h
                  have H := Lib.hid h
                  clear h t1 t2 t3
                  go_wp2_with fail
                  refine H.out.mono ?_
                  rintro e w2 ⟨rfl, r2, g2⟩
                  have x2 := hx.grownRow g2 (Nat.le_of_eq HB.out)
                  have cx2 : w2.cell? ⟨g, o + k, none⟩ = some (.int .i64 x) := x2.cell_some hc
                  clear g2 hr hx H hc
                  go_wp2_with fail
                  go_roundw
                  case rel => exact ⟨k, by omega, rfl, r2, x2⟩
                  case measure => simp [intOf] <;> omega
                | zero =>
                  obtain rfl : u12 = .int .i64 (-1) := hi
                  rw [List.take_zero, List.reverse_nil] at hr
                  go_wp2_with fail
                  refine (show Calls _ _ _ _ (fun e w' => e = .returned (.int .i64 0) ∧ w' = wr) from len_ring wr b 64 [] hr).mono ?_
                  rintro e w' ⟨rfl, rfl⟩
                  go_wp2_with fail
                  refine (show Calls _ _ _ _ (fun e w1 => e = .returned (.int .i64 64) ∧ w1 = w'.drew) from room_ring w' b 64 [] hr).mono ?_
                  rintro e w2 ⟨rfl, rfl⟩
                  go_wp2_with fail
                  refine (awake_any _).mono ?_
                  rintro e w2 ⟨rfl, y2⟩
                  go_wp2_with fail
                  go_ret
                  exact ⟨rfl, (hx.trans (Ext.drew _)).trans y2⟩

set_option maxHeartbeats 400000 in
theorem ends_long (w : World) (a a' : Option Addr) (c c' n n' : Nat) (h : 30 < n ∨ 30 < n') :
    Calls Try.prog 4 #[.slice a n c, .slice a' n' c'] w fun e w' => e = .returned (.bool true) ∧ Ext w w' := by
  by_cases h1 : 30 < n
  · have hd : (30 : Int) < n := by omega
    go_enter Try.func4, Try.ntmps4
    go_wp2_with fail
    refine (awake_any _).mono ?_
    rintro e w2 ⟨rfl, y2⟩
    go_wp2_with fail
    go_ret
    exact ⟨rfl, y2⟩
  · have hd : (n : Int) ≤ 30 := by omega
    have hd2 : (30 : Int) < n' := by omega
    go_enter Try.func4, Try.ntmps4
    go_wp2_with fail
    refine (awake_any _).mono ?_
    rintro e w2 ⟨rfl, y2⟩
    go_wp2_with fail
    go_ret
    exact ⟨rfl, y2⟩

end Go.Proofs.Ytdkblgbmbjagfaa
