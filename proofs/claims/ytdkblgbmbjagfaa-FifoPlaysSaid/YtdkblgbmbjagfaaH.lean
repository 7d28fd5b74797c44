/- What every right program lets wait: it answers true. -/
import Derived.Test.YtdkblgbmbjagfaaG
namespace Go.Proofs.Ytdkblgbmbjagfaa
open Go.RowKit

theorem Ext.grownRow {a w w' : World} (h : Ext a w) {b : Nat} (hg : w.grownBy w' (some b)) (hb : a.heap.size ≤ b) : Ext a w' :=
  Below.grown h hg h.size (fun k hk => by cases hk; exact hb)

theorem ints_lit (w : World) (l : List Int) (h : l.length ≤ maxLen) : Ints (w.alloc (.cells (l.map (Value.int .i64)).toArray 3)) (.slice (some ⟨w.heap.size, 0, none⟩) l.length l.length) l := by
  refine ⟨h, _, _, rfl, .inr ⟨_, 0, rfl, fun j hj => ?_⟩⟩
  have hb : (w.alloc (.cells (l.map (Value.int .i64)).toArray 3)).heap[w.heap.size]? = some (.cells (l.map (Value.int .i64)).toArray 3 (0, 0)) := by
    show (w.heap.push _)[w.heap.size]? = _
    simp
  rw [cell_of_blk hb]
  simp [hj, List.getD_eq_getElem?_getD]

set_option maxHeartbeats 1000000 in
theorem awake_any (w : World) : Calls Try.prog 7 #[] w fun e w' => e = .returned (.bool true) ∧ Ext w w' := by
  go_enter Try.func7, Try.ntmps7
  go_wp2_with fail
  refine (new_ring _ 2 (by omega) (by omega)).mono ?_
  rintro e w1 ⟨rfl, r1, x1⟩
  generalize hb : w.heap.size = b at r1
  have HB := Lib.hid hb
  clear hb
  go_wp2_with fail
  refine (show Calls _ _ _ _ (Does b 2 _ (.bool true) [5]) from put_ring w1 b 2 [] 5 r1).mono ?_
  rintro e w2 ⟨rfl, r2, g2⟩
  have x2 := x1.grownRow g2 (Nat.le_of_eq HB.out)
  clear g2 r1 x1
  go_wp2_with fail
  refine (show Calls _ _ _ _ (Does b 2 _ (.bool true) [4, 5]) from push_ring w2 b 2 [5] 4 r2).mono ?_
  rintro e w3 ⟨rfl, r3, g3⟩
  have x3 := x2.grownRow g3 (Nat.le_of_eq HB.out)
  clear g3 r2 x2
  go_wp2_with fail
  refine (show Calls _ _ _ _ (Does b 2 _ (.bool false) [4, 5]) from put_ring w3 b 2 [4, 5] 6 r3).mono ?_
  rintro e w4 ⟨rfl, r4, g4⟩
  have x4 := x3.grownRow g4 (Nat.le_of_eq HB.out)
  clear g4 r3 x3
  go_wp2_with fail
  refine (show Calls _ _ _ _ (Does b 2 _ (.tuple #[.int .i64 5, .bool true]) [4, 5]) from at_ring w4 b 2 [4, 5] 1 r4).mono ?_
  rintro e w5 ⟨rfl, r5, g5⟩
  have x5 := x4.grownRow g5 (Nat.le_of_eq HB.out)
  clear g5 r4 x4
  go_wp2_with fail
  refine (all_ring w5 b 2 [4, 5] r5).mono ?_
  rintro e w6 ⟨v, rfl, o6, y6⟩
  have r6 := r5.ext y6
  have x6 := x5.trans y6
  have hv : ∀ g o cap, v = .slice (some ⟨g, o, none⟩) 2 cap → g ≠ b := fun g o cap hv => by
    have h1 := (o6.lt g (by rw [hv]; rfl)).1
    have h2 := r5.lt
    omega
  have i6 := ints_own o6
  clear o6 y6 r5 x5
  go_wp2_with fail
  refine (show Calls _ _ _ _ (fun e w' => e = .returned (.int .i64 1) ∧ Ext w6 w') from find_ring w6 b 2 [4, 5] 5 r6).mono ?_
  rintro e w7 ⟨rfl, y7⟩
  have r7 := r6.ext y7
  have x7 := x6.trans y7
  have i7 := i6.ext y7
  clear y7 r6 x6 i6
  go_wp2_with fail
  refine (show Calls _ _ _ _ (Does b 2 _ (.tuple #[.int .i64 4, .bool true]) [5]) from take_ring w7 b 2 [4, 5] r7).mono ?_
  rintro e w8 ⟨rfl, r8, g8⟩
  have x8 := x7.grownRow g8 (Nat.le_of_eq HB.out)
  have i8 := i7.grown g8 hv
  clear g8 r7 x7 i7
  go_wp2_with fail
  refine (show Calls _ _ _ _ (fun e w' => e = .returned (.int .i64 1) ∧ w' = w8.drew) from room_ring w8 b 2 [5] r8).mono ?_
  rintro e w9 ⟨rfl, y9⟩
  replace y9 : Ext w8 w9 := y9 ▸ Ext.drew w8
  have r9 := r8.ext y9
  have x9 := x8.trans y9
  have i9 := i8.ext y9
  clear y9 r8 x8 i8
  go_wp2_with fail
  refine (show Calls _ _ _ _ (Does b 2 _ (.int .i64 1) []) from drop_ring w9 b 2 [5] 9 r9).mono ?_
  rintro e w10 ⟨rfl, r10, g10⟩
  have x10 := x9.grownRow g10 (Nat.le_of_eq HB.out)
  have i10 := i9.grown g10 hv
  clear g10 r9 x9 i9
  go_wp2_with fail
  refine (show Calls _ _ _ _ (Does b 2 _ (.tuple #[.int .i64 0, .bool false]) []) from last_ring w10 b 2 [] r10).mono ?_
  rintro e w11 ⟨rfl, r11, g11⟩
  have x11 := x10.grownRow g11 (Nat.le_of_eq HB.out)
  have i11 := i10.grown g11 hv
  clear g11 r10 x10 i10
  go_wp2_with fail
  refine (new_bad w11 0 (by omega)).mono ?_
  rintro e w' ⟨rfl, rfl⟩
  go_wp2_with fail
  have a1 : Ext w' (w'.alloc (Obj.cells #[Value.int IntKind.i64 4, Value.int IntKind.i64 5] 3)) := Ext.alloc _ _
  refine (same_ints _ v _ [4, 5] [4, 5] (i11.ext a1) (ints_lit w' [4, 5] (by decide))).mono ?_
  rintro e w12 ⟨rfl, y12⟩
  have r12 := (r11.ext a1).ext y12
  have x12 := (x11.trans a1).trans y12
  clear a1 y12 r11 x11 i11 hv
  rw [show ([4, 5] == ([4, 5] : List Int)) = true from rfl]
  go_wp2_with fail
  refine (show Calls _ _ _ _ (fun e w' => e = .returned (.int .i64 0) ∧ w' = w12) from len_ring w12 b 2 [] r12).mono ?_
  rintro e w' ⟨rfl, rfl⟩
  go_wp2_with fail
  refine (show Calls _ _ _ _ (fun e w1 => e = .returned (.int .i64 (-1)) ∧ Ext w' w1) from find_ring w' b 2 [] 5 r12).mono ?_
  rintro e w13 ⟨rfl, y13⟩
  go_wp2_with fail
  go_ret
  exact ⟨rfl, x12.trans y13⟩

end Go.Proofs.Ytdkblgbmbjagfaa
