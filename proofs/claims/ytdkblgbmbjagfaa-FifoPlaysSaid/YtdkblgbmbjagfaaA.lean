/- What each method of a ring does to the world, said of cells. -/
import Derived.Test.YtdkblgbmbjagfaaRows
import Derived.Test.YtdkblgbmbjagfaaB
import Derived.WalkKit
import Derived.WalkSpells
import Derived.WalkLawsBesides
import Derived.Deep.QuietTactic
import Derived.BigQuiet
import Derived.StillTailTactics
import Derived.BigRegion
import Derived.Lib.Hide
namespace Go.Proofs.Ytdkblgbmbjagfaa
open Go.RowKit

theorem region_tail {P : Program} {id : Nat} {Q : Exit → Act → World → Prop} {a : Act} {w : World} {l : List Oper} (n : Nat) (hm : P.follows .mixedOrders = true) (hB : Region.lexTailB .any l.toArray n = true)
    (h : wpStill P l.toArray w.drew (fun a' => wpList P l.toArray Q (l.drop n) a' w.drew) (l.take n) a) : (Code.region id l.toArray true).wp P Q a w :=
  wp_region_still_tail n hm hB h

theorem region_still {P : Program} {id : Nat} {Q : Exit → Act → World → Prop} {a : Act} {w : World} {l : List Oper} (hm : P.follows .mixedOrders = true) (hB : Region.lexB .any l.toArray = true)
    (h : wpStill P l.toArray w.drew (fun a' => Q .normal a' w.drew) l a) : (Code.region id l.toArray true).wp P Q a w :=
  wp_region_still_lit hm hB h

set_option maxHeartbeats 400000 in
theorem len_nil (w : World) : Calls Try.prog 11 #[.pointer none] w fun e w' => e = .returned (.int .i64 0) ∧ w' = w := by
  go_enter Try.func11, Try.ntmps11
  go_wp2
  go_ret
  exact ⟨rfl, rfl⟩

set_option maxHeartbeats 400000 in
theorem len_some (w : World) (b : Nat) (m : Int) (cm : w.cell? ⟨b, 66, none⟩ = some (.int .i64 m)) : Calls Try.prog 11 #[.pointer (some ⟨b, 0, none⟩)] w fun e w' => e = .returned (.int .i64 m) ∧ w' = w := by
  go_enter Try.func11, Try.ntmps11
  go_wp2
  go_ret
  exact ⟨rfl, rfl⟩

set_option maxHeartbeats 400000 in
theorem room_nil (w : World) : Calls Try.prog 12 #[.pointer none] w fun e w' => e = .returned (.int .i64 0) ∧ w' = w := by
  go_enter Try.func12, Try.ntmps12
  go_wp2
  go_ret
  exact ⟨rfl, rfl⟩

set_option maxHeartbeats 400000 in
theorem room_some (w : World) (b : Nat) (s m : Int) (cs : w.cell? ⟨b, 64, none⟩ = some (.int .i64 s)) (cm : w.cell? ⟨b, 66, none⟩ = some (.int .i64 m)) (h0 : 0 ≤ m) (_h1 : m ≤ s) (h2 : s ≤ 64) :
    Calls Try.prog 12 #[.pointer (some ⟨b, 0, none⟩)] w fun e w' => e = .returned (.int .i64 (s - m)) ∧ w' = w.drew := by
  have hw : IntKind.i64.wrap (s - m) = s - m := IntWalk.i64_in _ (by omega)
  go_enter Try.func12, Try.ntmps12
  go_wp2
  refine region_still (by kernel_rfl) (by kernel_rfl) ?_
  repeat still_step
  refine wpStill_nil ?_
  go_wp2
  go_ret
  exact ⟨rfl, rfl⟩

set_option maxHeartbeats 400000 in
theorem place_lo (w : World) (b : Nat) (s f i : Int) (cs : w.cell? ⟨b, 64, none⟩ = some (.int .i64 s)) (cf : w.cell? ⟨b, 65, none⟩ = some (.int .i64 f))
    (h0 : 0 ≤ f) (h2 : s ≤ 64) (h3 : 0 ≤ i) (h4 : f + i < s) :
    Calls Try.prog 25 #[.pointer (some ⟨b, 0, none⟩), .int .i64 i] w fun e w' => e = .returned (.int .i64 (f + i)) ∧ w' = w := by
  go_enter Try.func25, Try.ntmps25
  go_wp2
  go_ret
  exact ⟨rfl, rfl⟩

set_option maxHeartbeats 400000 in
theorem place_hi (w : World) (b : Nat) (s f i : Int) (cs : w.cell? ⟨b, 64, none⟩ = some (.int .i64 s)) (cf : w.cell? ⟨b, 65, none⟩ = some (.int .i64 f))
    (h0 : 0 ≤ f) (h1 : f ≤ s) (h2 : s ≤ 64) (h3 : 0 ≤ i) (h4 : s ≤ f + i) (h5 : i ≤ 64) :
    Calls Try.prog 25 #[.pointer (some ⟨b, 0, none⟩), .int .i64 i] w fun e w' => e = .returned (.int .i64 (f + i - s)) ∧ w' = w := by
  go_enter Try.func25, Try.ntmps25
  go_wp2
  go_ret
  exact ⟨rfl, rfl⟩

theorem place_any (w : World) (b : Nat) (s f i : Int) (cs : w.cell? ⟨b, 64, none⟩ = some (.int .i64 s)) (cf : w.cell? ⟨b, 65, none⟩ = some (.int .i64 f))
    (h0 : 0 ≤ f) (h1 : f < s) (h2 : s ≤ 64) (h3 : 0 ≤ i) (h5 : i ≤ s) :
    Calls Try.prog 25 #[.pointer (some ⟨b, 0, none⟩), .int .i64 i] w fun e w' => e = .returned (.int .i64 (pl s f i)) ∧ w' = w := by
  unfold pl
  split
  · exact place_lo w b s f i cs cf h0 h2 h3 (by omega)
  · exact place_hi w b s f i cs cf h0 (by omega) h2 h3 (by omega) (by omega)

/-- The place as a natural number. -/
theorem place_at (w : World) (b : Nat) (s f i : Int) (k : Nat) (hk : pl s f i = k) (cs : w.cell? ⟨b, 64, none⟩ = some (.int .i64 s)) (cf : w.cell? ⟨b, 65, none⟩ = some (.int .i64 f))
    (h0 : 0 ≤ f) (h1 : f < s) (h2 : s ≤ 64) (h3 : 0 ≤ i) (h5 : i ≤ s) :
    Calls Try.prog 25 #[.pointer (some ⟨b, 0, none⟩), .int .i64 i] w fun e w' => e = .returned (.int .i64 k) ∧ w' = w :=
  hk ▸ place_any w b s f i cs cf h0 h1 h2 h3 h5

set_option maxHeartbeats 400000 in
theorem put_nil (w : World) (n : Int) :
    Calls Try.prog 9 #[.pointer none, .int .i64 n] w fun e w' => e = .returned (.bool false) ∧ w' = w := by
  go_enter Try.func9, Try.ntmps9
  go_wp2_with (go_at_call 12; refine (room_nil _).mono ?_; rintro e w' ⟨rfl, rfl⟩)
  go_ret
  exact ⟨rfl, rfl⟩

set_option maxHeartbeats 400000 in
theorem put_full (w : World) (b : Nat) (s n : Int) (cs : w.cell? ⟨b, 64, none⟩ = some (.int .i64 s)) (cm : w.cell? ⟨b, 66, none⟩ = some (.int .i64 s)) (h1 : 0 ≤ s) (h2 : s ≤ 64) :
    Calls Try.prog 9 #[.pointer (some ⟨b, 0, none⟩), .int .i64 n] w fun e w' => e = .returned (.bool false) ∧ w' = w.drew := by
  go_enter Try.func9, Try.ntmps9
  go_wp2_with (go_at_call 12; refine (room_some _ b s s cs cm h1 (by omega) h2).mono ?_; rintro e w' ⟨rfl, rfl⟩)
  go_ret
  exact ⟨rfl, rfl⟩

set_option maxHeartbeats 400000 in
theorem put_room (w : World) (b : Nat) (s f m n : Int) (cs : w.cell? ⟨b, 64, none⟩ = some (.int .i64 s)) (cf : w.cell? ⟨b, 65, none⟩ = some (.int .i64 f)) (cm : w.cell? ⟨b, 66, none⟩ = some (.int .i64 m))
    (v : Value) (k : Nat) (hk : pl s f m = k) (ck : w.cell? ⟨b, k, none⟩ = some v) (zk : w.frozen? ⟨b, k, none⟩ = false) (zm : w.frozen? ⟨b, 66, none⟩ = false)
    (h0 : 0 ≤ f) (h1 : f < s) (h2 : s ≤ 64) (h3 : 0 ≤ m) (h5 : m < s) :
    Calls Try.prog 9 #[.pointer (some ⟨b, 0, none⟩), .int .i64 n] w fun e w' => e = .returned (.bool true) ∧ w' = (((w.setCell ⟨b, k, none⟩ (.int .i64 n)).setCell ⟨b, 66, none⟩ (.int .i64 (m + 1))).drewN 2) := by
  have hp := pl_bd s f m h0 h1 h3 (by omega)
  rw [hk] at hp
  obtain ⟨_, hp1⟩ := hp
  have hp2 : (k : Int) < 64 := by omega
  clear hp1
  have HK := Lib.hid hk
  clear hk
  go_enter Try.func9, Try.ntmps9
  go_wp2_with (go_at_call 12; refine (room_some _ b s m cs cm h3 (by omega) h2).mono ?_; rintro e w' ⟨rfl, rfl⟩)
  refine region_tail 11 (by kernel_rfl) (by kernel_rfl) ?_
  simp only [List.take_succ_cons, List.take_zero, List.drop_succ_cons, List.drop_zero]
  repeat still_step
  still_call (place_at _ b s f m k HK.out cs cf h0 h1 h2 h3 (by omega))
  repeat still_step
  refine wpStill_nil ?_
  go_wp2
  go_ret
  exact ⟨rfl, rfl⟩

set_option maxHeartbeats 400000 in
theorem push_nil (w : World) (n : Int) :
    Calls Try.prog 13 #[.pointer none, .int .i64 n] w fun e w' => e = .returned (.bool false) ∧ w' = w := by
  go_enter Try.func13, Try.ntmps13
  go_wp2_with (go_at_call 12; refine (room_nil _).mono ?_; rintro e w' ⟨rfl, rfl⟩)
  go_ret
  exact ⟨rfl, rfl⟩

set_option maxHeartbeats 400000 in
theorem push_full (w : World) (b : Nat) (s n : Int) (cs : w.cell? ⟨b, 64, none⟩ = some (.int .i64 s)) (cm : w.cell? ⟨b, 66, none⟩ = some (.int .i64 s)) (h1 : 0 ≤ s) (h2 : s ≤ 64) :
    Calls Try.prog 13 #[.pointer (some ⟨b, 0, none⟩), .int .i64 n] w fun e w' => e = .returned (.bool false) ∧ w' = w.drew := by
  go_enter Try.func13, Try.ntmps13
  go_wp2_with (go_at_call 12; refine (room_some _ b s s cs cm h1 (by omega) h2).mono ?_; rintro e w' ⟨rfl, rfl⟩)
  go_ret
  exact ⟨rfl, rfl⟩

set_option maxHeartbeats 400000 in
theorem push_room (w : World) (b : Nat) (s f m n : Int) (cs : w.cell? ⟨b, 64, none⟩ = some (.int .i64 s)) (cf : w.cell? ⟨b, 65, none⟩ = some (.int .i64 f)) (cm : w.cell? ⟨b, 66, none⟩ = some (.int .i64 m))
    (v : Value) (k : Nat) (hk : pl s f (s - 1) = k) (ck : w.cell? ⟨b, k, none⟩ = some v) (zk : w.frozen? ⟨b, k, none⟩ = false) (zf : w.frozen? ⟨b, 65, none⟩ = false) (zm : w.frozen? ⟨b, 66, none⟩ = false)
    (h0 : 0 ≤ f) (h1 : f < s) (h2 : s ≤ 64) (h3 : 0 ≤ m) (h5 : m < s) :
    Calls Try.prog 13 #[.pointer (some ⟨b, 0, none⟩), .int .i64 n] w fun e w' => e = .returned (.bool true) ∧ w' = ((((w.setCell ⟨b, 65, none⟩ (.int .i64 k)).setCell ⟨b, k, none⟩ (.int .i64 n)).setCell ⟨b, 66, none⟩ (.int .i64 (m + 1))).drewN 2) := by
  have hp := pl_bd s f (s - 1) h0 h1 (by omega) (by omega)
  rw [hk] at hp
  obtain ⟨_, hp1⟩ := hp
  have hp2 : (k : Int) < 64 := by omega
  have hp3 : k < 64 := by omega
  clear hp1
  have HK := Lib.hid hk
  clear hk
  go_enter Try.func13, Try.ntmps13
  go_wp2_with (first
    | (go_at_call 12; refine (room_some _ b s m cs cm h3 (by omega) h2).mono ?_; rintro e w' ⟨rfl, rfl⟩)
    | (go_at_call 25; refine (place_at _ b s f (s - 1) k HK.out (by exact cs) (by exact cf) h0 h1 h2 (by omega) (by omega)).mono ?_; rintro e w' ⟨rfl, rfl⟩))
  refine region_tail 9 (by kernel_rfl) (by kernel_rfl) ?_
  simp only [List.take_succ_cons, List.take_zero, List.drop_succ_cons, List.drop_zero]
  repeat still_step
  refine wpStill_nil ?_
  go_wp2
  go_ret
  exact ⟨rfl, rfl⟩

set_option maxHeartbeats 400000 in
theorem at_neg (w : World) (p : Option Addr) (i : Int) (h : i < 0) :
    Calls Try.prog 18 #[.pointer p, .int .i64 i] w fun e w' => e = .returned (.tuple #[.int .i64 0, .bool false]) ∧ w' = w := by
  have hd : decide (i < 0) = true := by simpa using h
  go_enter Try.func18, Try.ntmps18
  go_wp2
  go_ret2
  exact ⟨rfl, rfl⟩

set_option maxHeartbeats 400000 in
theorem at_nil (w : World) (i : Int) (h : 0 ≤ i) :
    Calls Try.prog 18 #[.pointer none, .int .i64 i] w fun e w' => e = .returned (.tuple #[.int .i64 0, .bool false]) ∧ w' = w := by
  have hd : decide (i < 0) = false := by simpa using h
  go_enter Try.func18, Try.ntmps18
  go_wp2_with (go_at_call 11; refine (len_nil _).mono ?_; rintro e w' ⟨rfl, rfl⟩)
  go_ret2
  exact ⟨rfl, rfl⟩

set_option maxHeartbeats 400000 in
theorem at_hi (w : World) (b : Nat) (m i : Int) (cm : w.cell? ⟨b, 66, none⟩ = some (.int .i64 m)) (h : 0 ≤ i) (hi : m ≤ i) :
    Calls Try.prog 18 #[.pointer (some ⟨b, 0, none⟩), .int .i64 i] w fun e w' => e = .returned (.tuple #[.int .i64 0, .bool false]) ∧ w' = w := by
  have hd : decide (i < 0) = false := by simpa using h
  go_enter Try.func18, Try.ntmps18
  go_wp2_with (go_at_call 11; refine (len_some _ b m (by exact cm)).mono ?_; rintro e w' ⟨rfl, rfl⟩)
  go_ret2
  exact ⟨rfl, rfl⟩

set_option maxHeartbeats 400000 in
theorem at_in (w : World) (b : Nat) (s f m i : Int) (cs : w.cell? ⟨b, 64, none⟩ = some (.int .i64 s)) (cf : w.cell? ⟨b, 65, none⟩ = some (.int .i64 f)) (cm : w.cell? ⟨b, 66, none⟩ = some (.int .i64 m))
    (v : Int) (k : Nat) (hk : pl s f i = k) (ck : w.cell? ⟨b, k, none⟩ = some (.int .i64 v))
    (h0 : 0 ≤ f) (h1 : f < s) (h2 : s ≤ 64) (h3 : m ≤ s) (h4 : 0 ≤ i) (h5 : i < m) :
    Calls Try.prog 18 #[.pointer (some ⟨b, 0, none⟩), .int .i64 i] w fun e w' => e = .returned (.tuple #[.int .i64 v, .bool true]) ∧ w' = w.drew := by
  have hp := pl_bd s f i h0 h1 h4 (by omega)
  rw [hk] at hp
  obtain ⟨_, hp1⟩ := hp
  have hp2 : (k : Int) < 64 := by omega
  clear hp1
  have HK := Lib.hid hk
  clear hk
  have hd : decide (i < 0) = false := by simpa using h4
  go_enter Try.func18, Try.ntmps18
  go_wp2_with (go_at_call 11; refine (len_some _ b m (by exact cm)).mono ?_; rintro e w' ⟨rfl, rfl⟩)
  refine region_still (by kernel_rfl) (by kernel_rfl) ?_
  repeat still_step
  still_call (place_at _ b s f i k HK.out (by exact cs) (by exact cf) h0 h1 h2 h4 (by omega))
  repeat still_step
  refine wpStill_nil ?_
  go_wp2
  go_ret2
  exact ⟨rfl, rfl⟩

set_option maxHeartbeats 400000 in
theorem take_nil (w : World) :
    Calls Try.prog 10 #[.pointer none] w fun e w' => e = .returned (.tuple #[.int .i64 0, .bool false]) ∧ w' = w := by
  go_enter Try.func10, Try.ntmps10
  go_wp2_with (go_at_call 18; refine (at_nil _ 0 (by omega)).mono ?_; rintro e w' ⟨rfl, rfl⟩)
  go_ret2
  exact ⟨rfl, rfl⟩

set_option maxHeartbeats 400000 in
theorem take_empty (w : World) (b : Nat) (cm : w.cell? ⟨b, 66, none⟩ = some (.int .i64 0)) :
    Calls Try.prog 10 #[.pointer (some ⟨b, 0, none⟩)] w fun e w' => e = .returned (.tuple #[.int .i64 0, .bool false]) ∧ w' = w := by
  go_enter Try.func10, Try.ntmps10
  go_wp2_with (go_at_call 18; refine (at_hi _ b 0 0 (by exact cm) (by omega) (by omega)).mono ?_; rintro e w' ⟨rfl, rfl⟩)
  go_ret2
  exact ⟨rfl, rfl⟩

set_option maxHeartbeats 400000 in
theorem take_some (w : World) (b : Nat) (s f m : Int) (cs : w.cell? ⟨b, 64, none⟩ = some (.int .i64 s)) (cf : w.cell? ⟨b, 65, none⟩ = some (.int .i64 f)) (cm : w.cell? ⟨b, 66, none⟩ = some (.int .i64 m))
    (v : Int) (k k1 : Nat) (hk : pl s f 0 = k) (hk1 : pl s f 1 = k1) (ck : w.cell? ⟨b, k, none⟩ = some (.int .i64 v)) (zf : w.frozen? ⟨b, 65, none⟩ = false) (zm : w.frozen? ⟨b, 66, none⟩ = false)
    (h0 : 0 ≤ f) (h1 : f < s) (h2 : s ≤ 64) (h3 : m ≤ s) (h5 : 0 < m) :
    Calls Try.prog 10 #[.pointer (some ⟨b, 0, none⟩)] w fun e w' => e = .returned (.tuple #[.int .i64 v, .bool true]) ∧ w' = (((w.setCell ⟨b, 65, none⟩ (.int .i64 k1)).setCell ⟨b, 66, none⟩ (.int .i64 (m - 1))).drewN 1) := by
  have HK := Lib.hid hk
  clear hk
  have HK1 := Lib.hid hk1
  clear hk1
  go_enter Try.func10, Try.ntmps10
  go_wp2_with (first
    | (go_at_call 18; refine (at_in _ b s f m 0 (by exact cs) (by exact cf) (by exact cm) v k HK.out (by exact ck) h0 h1 h2 h3 (by omega) (by omega)).mono ?_; rintro e w' ⟨rfl, rfl⟩)
    | (go_at_call 25; refine (place_at _ b s f 1 k1 HK1.out (by exact cs) (by exact cf) h0 h1 h2 (by omega) (by omega)).mono ?_; rintro e w' ⟨rfl, rfl⟩))
  go_ret2
  exact ⟨rfl, rfl⟩

set_option maxHeartbeats 400000 in
theorem last_nil (w : World) :
    Calls Try.prog 14 #[.pointer none] w fun e w' => e = .returned (.tuple #[.int .i64 0, .bool false]) ∧ w' = w := by
  go_enter Try.func14, Try.ntmps14
  go_wp2_with (first
    | (go_at_call 11; refine (len_nil _).mono ?_; rintro e w' ⟨rfl, rfl⟩)
    | (go_at_call 18; refine (at_neg _ none (-1) (by omega)).mono ?_; rintro e w' ⟨rfl, rfl⟩))
  go_ret2
  exact ⟨rfl, rfl⟩

set_option maxHeartbeats 400000 in
theorem last_empty (w : World) (b : Nat) (cm : w.cell? ⟨b, 66, none⟩ = some (.int .i64 0)) :
    Calls Try.prog 14 #[.pointer (some ⟨b, 0, none⟩)] w fun e w' => e = .returned (.tuple #[.int .i64 0, .bool false]) ∧ w' = w := by
  go_enter Try.func14, Try.ntmps14
  go_wp2_with (first
    | (go_at_call 11; refine (len_some _ b 0 (by exact cm)).mono ?_; rintro e w' ⟨rfl, rfl⟩)
    | (go_at_call 18; refine (at_neg _ _ (-1) (by omega)).mono ?_; rintro e w' ⟨rfl, rfl⟩))
  go_ret2
  exact ⟨rfl, rfl⟩

set_option maxHeartbeats 400000 in
theorem last_some (w : World) (b : Nat) (s f m : Int) (cs : w.cell? ⟨b, 64, none⟩ = some (.int .i64 s)) (cf : w.cell? ⟨b, 65, none⟩ = some (.int .i64 f)) (cm : w.cell? ⟨b, 66, none⟩ = some (.int .i64 m))
    (v : Int) (k : Nat) (hk : pl s f (m - 1) = k) (ck : w.cell? ⟨b, k, none⟩ = some (.int .i64 v)) (zm : w.frozen? ⟨b, 66, none⟩ = false)
    (h0 : 0 ≤ f) (h1 : f < s) (h2 : s ≤ 64) (h3 : m ≤ s) (h5 : 0 < m) :
    Calls Try.prog 14 #[.pointer (some ⟨b, 0, none⟩)] w fun e w' => e = .returned (.tuple #[.int .i64 v, .bool true]) ∧ w' = ((w.setCell ⟨b, 66, none⟩ (.int .i64 (m - 1))).drewN 1) := by
  have HK := Lib.hid hk
  clear hk
  go_enter Try.func14, Try.ntmps14
  go_wp2_with (first
    | (go_at_call 11; refine (len_some _ b m (by exact cm)).mono ?_; rintro e w' ⟨rfl, rfl⟩)
    | (go_at_call 18; refine (at_in _ b s f m (m - 1) (by exact cs) (by exact cf) (by exact cm) v k HK.out (by exact ck) h0 h1 h2 h3 (by omega) (by omega)).mono ?_; rintro e w' ⟨rfl, rfl⟩))
  go_ret2
  exact ⟨rfl, rfl⟩


set_option maxHeartbeats 400000 in
theorem drop_nil (w : World) (n : Int) :
    Calls Try.prog 24 #[.pointer none, .int .i64 n] w fun e w' => e = .returned (.int .i64 0) ∧ w' = w := by
  go_enter Try.func24, Try.ntmps24
  go_wp2_with (go_at_call 11; refine (len_nil _).mono ?_; rintro e w' ⟨rfl, rfl⟩)
  all_goals
    go_ret
    exact ⟨rfl, rfl⟩

set_option maxHeartbeats 400000 in
theorem new_bad (w : World) (n : Int) (h : n < 1 ∨ 64 < n) :
    Calls Try.prog 8 #[.int .i64 n] w fun e w' => e = .returned (.tuple #[.pointer none, .int .i64 8]) ∧ w' = w := by
  rcases h with h | h
  · have hd : decide (n < 1) = true := by simpa using h
    go_enter Try.func8, Try.ntmps8
    go_wp2
    go_ret2
    exact ⟨rfl, rfl⟩
  · have hd : decide (n < 1) = false := by simp; omega
    go_enter Try.func8, Try.ntmps8
    go_wp2
    go_ret2
    exact ⟨rfl, rfl⟩


end Go.Proofs.Ytdkblgbmbjagfaa
