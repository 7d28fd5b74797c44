/- Where a number stands in a ring; all numbers of a ring. -/
import Derived.Test.YtdkblgbmbjagfaaC
namespace Go.Proofs.Ytdkblgbmbjagfaa
open Go.RowKit

theorem ret_int {k : IntKind} {a b : Int} (h : a = b) : Ending.returned (.int k a) = .returned (.int k b) := by rw [h]

/-- Where a number stands in a list; -1: nowhere. -/
def fnd (L : List Int) (n : Int) : Int := match L.findIdx? (· == n) with | some i => i | none => -1

theorem fnd_hit (L : List Int) (n : Int) (k : Nat) (hk : k < L.length) (hno : ∀ j, j < k → L.getD j 0 ≠ n) (hit : L.getD k 0 = n) : fnd L n = k := by
  have h : L.findIdx? (· == n) = some k := by
    rw [List.findIdx?_eq_some_iff_getElem]
    refine ⟨hk, ?_, fun j hj => ?_⟩
    · simp [List.getD_eq_getElem?_getD, hk] at hit; simp [hit]
    · have := hno j hj
      simp [List.getD_eq_getElem?_getD, show j < L.length by omega] at this
      simp [this]
  simp [fnd, h]

theorem fnd_miss (L : List Int) (n : Int) (hno : ∀ j, j < L.length → L.getD j 0 ≠ n) : fnd L n = -1 := by
  have h : L.findIdx? (· == n) = none := by
    rw [List.findIdx?_eq_none_iff]
    intro x hx
    obtain ⟨j, hj, rfl⟩ := List.getElem_of_mem hx
    have := hno j hj
    simp [List.getD_eq_getElem?_getD, hj] at this
    simp [this]
  simp [fnd, h]

set_option maxHeartbeats 400000 in
theorem find_nil (w : World) (n : Int) :
    Calls Try.prog 22 #[.pointer none, .int .i64 n] w fun e w' => e = .returned (.int .i64 (-1)) ∧ w' = w := by
  go_enter Try.func22, Try.ntmps22
  go_wp2_with (go_at_call 11; refine (len_nil _).mono ?_; rintro e w' ⟨rfl, rfl⟩)
  go_loop [8] (fun i => i = .int .i64 0) (fun _ => 0)
  case atStart => rfl
  case round =>
    subst hrel
    go_wp2
    go_ret
    exact ⟨rfl, rfl⟩

set_option maxHeartbeats 400000 in
theorem find_some (w : World) (b : Nat) (s f n : Int) (L : List Int) (cs : w.cell? ⟨b, 64, none⟩ = some (.int .i64 s)) (cf : w.cell? ⟨b, 65, none⟩ = some (.int .i64 f)) (cm : w.cell? ⟨b, 66, none⟩ = some (.int .i64 L.length))
    (hat : Hid (∀ i : Nat, (i : Int) < L.length → ∃ k : Nat, pl s f i = k ∧ w.cell? ⟨b, k, none⟩ = some (.int .i64 (L.getD i 0))))
    (h0 : 0 ≤ f) (h1 : f < s) (h2 : s ≤ 64) (h3 : L.length ≤ s) :
    Calls Try.prog 22 #[.pointer (some ⟨b, 0, none⟩), .int .i64 n] w fun e w' => e = .returned (.int .i64 (fnd L n)) ∧ ∃ d, w' = w.drewN d := by
  go_enter Try.func22, Try.ntmps22
  go_wp2_with (go_at_call 11; refine (len_some _ b _ (by exact cm)).mono ?_; rintro e w' ⟨rfl, rfl⟩)
  go_loopw [8] (fun i wr => ∃ k : Nat, k ≤ L.length ∧ i = .int .i64 k ∧ (∃ d, wr = w'.drewN d) ∧ Hid (∀ j, j < k → L.getD j 0 ≠ n)) (fun i _ => L.length - (intOf i).toNat)
  case atStart => exact ⟨0, by omega, rfl, ⟨0, rfl⟩, Lib.hid (fun j hj => absurd hj (by omega))⟩
  case round =>
    obtain ⟨k, hk, rfl, ⟨d, rfl⟩, hno⟩ := hrel
    by_cases hlt : k < L.length
    · obtain ⟨k2, hk2, ck⟩ := hat.out k (by omega)
      have hp := pl_bd s f k h0 h1 (by omega) (by omega)
      rw [hk2] at hp
      obtain ⟨_, hp1⟩ := hp
      have hp2 : (k2 : Int) < 64 := by omega
      have hlt2 : (k : Int) < L.length := by omega
      clear hp1
      have HK := Lib.hid hk2
      clear hk2
      generalize hx : L.getD k 0 = x at ck
      have HX := Lib.hid hx
      clear hx
      by_cases he : x = n
      · have hb : (x == n) = true := by simp [he]
        have he := Lib.hid he
        go_wp2
        refine region_still (by kernel_rfl) (by kernel_rfl) ?_
        repeat still_step
        still_call (place_at _ b s f k k2 HK.out (by exact cs) (by exact cf) h0 h1 h2 (by omega) (by omega))
        repeat still_step
        refine wpStill_nil ?_
        go_wp2
        go_ret
        exact ⟨ret_int (fnd_hit L n k hlt hno.out (HX.out.trans he.out)).symm, d + 1, rfl⟩
      · have hb : (x == n) = false := by simp [he]
        have he := Lib.hid he
        go_wp2
        refine region_still (by kernel_rfl) (by kernel_rfl) ?_
        repeat still_step
        still_call (place_at _ b s f k k2 HK.out (by exact cs) (by exact cf) h0 h1 h2 (by omega) (by omega))
        repeat still_step
        refine wpStill_nil ?_
        go_wp2
        go_roundw
        case rel => exact ⟨k + 1, by omega, by go_num, ⟨d + 1, rfl⟩, Lib.hid (fun j hj => by
          by_cases e : j = k
          · subst e; rw [HX.out]; exact he.out
          · exact hno.out j (by omega))⟩
        case measure => simp [intOf]; omega
    · go_wp2
      go_ret
      exact ⟨ret_int (fnd_miss L n (fun j hj => hno.out j (by omega))).symm, d, rfl⟩

end Go.Proofs.Ytdkblgbmbjagfaa
