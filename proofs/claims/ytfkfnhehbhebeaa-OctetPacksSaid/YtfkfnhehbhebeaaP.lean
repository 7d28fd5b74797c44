/- A number and a text are laid, as the document says. -/
import Derived.Test.YtfkfnhehbhebeaaN
import Derived.Laws.AppendOwnNone
namespace Go.Proofs.Ytfkfnhehbhebeaa
set_option linter.unusedSimpArgs false
set_option linter.unusedVariables false
open Go.RowKit

set_option maxRecDepth 100000 in
set_option maxHeartbeats 8000000 in
theorem rsay_any (w : World) (s : ByteArray) (m : Int) (hs : s.size ≤ 1000000) : Calls Try.prog 27 #[.string s, .int .i64 m] w fun e w' => ∃ v, e = .returned (.tuple #[v, .int .i64 (sayE s m)]) ∧ BytesAt w' v (sayL s m) ∧ Ext w w' := by
  by_cases hm : min m 255 < s.size
  case' pos =>
    have HE := Lib.hid (show sayE s m = 5 from if_pos hm)
    by_cases h255 : m < s.size
    case' neg => have h256 : (255 : Int) < s.size := by omega
    all_goals
      clear hm
      go_enter Try.func27, Try.ntmps27
      go_wp2_with fail
      refine bodyPost_ret (v := .tuple #[.slice none 0 0, .int .i64 5]) (by simp [results, Try.results27, go_sem]) rfl ⟨_, by rw [HE.out], .inl ⟨if_neg (by rw [HE.out]; decide), rfl⟩, Ext.refl _⟩
  case' neg =>
    obtain ⟨i0, hi, hz0, hz1, hz2⟩ := info_parts info5
    have HE := Lib.hid (show sayE s m = 0 from if_neg hm)
    have hsz : s.size ≤ 255 := by omega
    have hw8 : IntKind.u8.wrap (s.size : Int) = s.size := by rw [IntKind.wrap_u8]; omega
    have h255 : ¬ m < s.size := by omega
    have h256 : ¬ (255 : Int) < s.size := by omega
    go_enter Try.func27, Try.ntmps27
    go_wp2_with (at_builtin; refine Lib.wpList_append_own_string _ rfl _ _ 46 9 rfl w.heap.size 5 i0 Try.underlying46 Try.underlying9 hi hz0 hz1 hz2 _ 1 [.int .u8 s.size] rfl (World.ownsRow_lit w _ 1 (Nat.le_refl _) (by decide) rfl) s rfl ?c1 ?c2 ?c3 ?_)
    case c1 => unfold maxLen; omega
    case c2 => omega
    intro v' w' hown hgrow _
    have x0 : Ext w w' := Below.grown (Ext.alloc w _) hgrow (by simp) (fun q hq => by simp [Value.ownBlock] at hq; omega)
    have hl : sayL s m = UInt8.ofNat s.size :: s.data.toList := if_pos HE.out
    have hb : BytesAt w' v' (sayL s m) := by
      refine own_bytes (base := w.heap.size) ?_
      rw [hl]
      have e1 : (UInt8.ofNat s.size :: s.data.toList).length = 1 + s.size := by simp [size_list]; omega
      have e2 : bC (UInt8.ofNat s.size :: s.data.toList) = [Value.int .u8 s.size] ++ Lib.strCells s := by
        simp [bC, Lib.strCells]
        omega
      rw [e1, e2]
      exact hown
    clear hown hgrow
    go_wp2_with fail
    refine bodyPost_ret (v := .tuple #[v', .int .i64 0]) (by simp [results, Try.results27, go_sem]) rfl ⟨_, by rw [HE.out], hb, x0⟩

theorem layL_next (N j : Nat) : layL N (j + 1) = UInt8.ofNat (digit N j) :: layL N j := by
  unfold layL
  rw [List.range_succ_eq_map, List.map_cons, List.map_map]
  simp only [List.cons.injEq]
  refine ⟨by simp, List.map_congr_left fun q hq => ?_⟩
  simp only [Function.comp]
  congr 2
  omega

theorem layL_length (N j : Nat) : (layL N j).length = j := by simp [layL]

theorem layE_pow {N K : Nat} (hw : wideB (K : Int) = true) : layE N K = if 0 < N / 256 ^ K then 8 else 0 := by
  have hp : 0 < 256 ^ K := Nat.pow_pos (by decide)
  unfold layE
  rw [if_neg (by simp [hw])]
  have e : ((N : Int) < 0 ∨ (256 : Int) ^ (K : Int).toNat ≤ N) ↔ 0 < N / 256 ^ K := by
    rw [Nat.div_pos_iff]
    simp only [Int.toNat_natCast]
    have : (256 : Int) ^ K = ((256 ^ K : Nat) : Int) := by simp
    rw [this]
    omega
  simp only [e]

set_option maxRecDepth 100000 in
set_option maxHeartbeats 8000000 in
theorem rlay_any (w : World) (n k : Int) (hn63 : n ≤ 9223372036854775807) : Calls Try.prog 25 #[.int .i64 n, .int .i64 k] w fun e w' => ∃ v, e = .returned (.tuple #[v, .int .i64 (layE n k)]) ∧ BytesAt w' v (layV n k) ∧ Ext w w' := by
  by_cases hw : wideB k = true
  case' neg =>
    have hwf : wideB k = false := by simpa using hw
    have HE := Lib.hid (show layE n k = 2 from if_pos hwf)
    have HW := Lib.hid hwf
    clear hw hwf
    go_enter Try.func25, Try.ntmps25
    go_wp2_with fail
    refine (rwide_any _ k).mono ?_
    rintro e w1 ⟨rfl, rfl⟩
    rw [HW.out]
    go_wp2_with fail
    refine bodyPost_ret (v := .tuple #[.slice none 0 0, .int .i64 2]) (by simp [results, Try.results25, go_sem]) rfl ⟨_, by rw [HE.out], .inl ⟨if_neg (by rw [HE.out]; decide), rfl⟩, Ext.refl _⟩
  case' pos =>
    have hk := wide_bounds hw
    have HW := Lib.hid hw
    by_cases hn : n < 0
    case' pos =>
      have HE := Lib.hid (show layE n k = 8 by unfold layE; rw [if_neg (by simp [hw]), if_pos (.inl hn)])
      clear hw
      go_enter Try.func25, Try.ntmps25
      go_wp2_with fail
      refine (rwide_any _ k).mono ?_
      rintro e w1 ⟨rfl, rfl⟩
      rw [HW.out]
      go_wp2_with fail
      refine bodyPost_ret (v := .tuple #[.slice none 0 0, .int .i64 8]) (by simp [results, Try.results25, go_sem]) rfl ⟨_, by rw [HE.out], .inl ⟨if_neg (by rw [HE.out]; decide), rfl⟩, Ext.refl _⟩
    case' neg =>
      obtain ⟨i0, hi, hz0, hz1, hz2⟩ := info_parts info5
      obtain ⟨K, rfl⟩ : ∃ K : Nat, k = K := ⟨k.toNat, by omega⟩
      obtain ⟨N, rfl⟩ : ∃ N : Nat, n = N := ⟨n.toNat, by omega⟩
      have HE := Lib.hid (layE_pow (N := N) hw)
      have hn' : ¬ (N : Int) < 0 := by omega
      clear hw
      go_enter Try.func25, Try.ntmps25
      go_wp2_with fail
      refine (rwide_any _ _).mono ?_
      rintro e w1 ⟨rfl, rfl⟩
      rw [HW.out]
      go_wp2_with fail
      go_loopw [0, 6, 7] (fun n o i wr => ∃ j : Nat, i = .int .i64 j ∧ n = .int .i64 (N / 256 ^ j : Nat) ∧ j ≤ K ∧ BytesAt wr o (layL N j) ∧ Ext w1 wr) (fun _ _ i _ => K - (intOf i).toNat)
      case atStart => exact ⟨0, rfl, by simp, by omega, .inl ⟨rfl, rfl⟩, Ext.refl _⟩
      case round =>
        obtain ⟨j, rfl, rfl, hj, hb, hx⟩ := hrel
        obtain ⟨M, hM⟩ : ∃ M : Nat, M = N / 256 ^ j := ⟨_, rfl⟩
        rw [← hM]
        have hM63 : M ≤ 9223372036854775807 := by rw [hM]; exact Nat.le_trans (Nat.div_le_self _ _) (by omega)
        have hnext : N / 256 ^ (j + 1) = M / 256 := by rw [hM, Nat.pow_succ, Nat.div_div_eq_div_mul]
        have hdig : digit N j = M % 256 := by unfold digit; rw [hM]
        have HN := Lib.hid hnext
        have HD := Lib.hid hdig
        have HM := Lib.hid hM
        clear hnext hdig hM
        by_cases hlt : j < K
        · have hlt2 : (j : Int) < K := by omega
          have hdn := layL_next N j
          have hln := layL_length N j
          have HDN := Lib.hid hdn
          have HB := Lib.hid hb
          have hown : (wr.alloc (.cells #[.int .u8 ((M : Int) % 256)] 5)).ownsRow wr.heap.size 5 1 (.slice (some ⟨wr.heap.size, 0, none⟩) 1 1) 1 [.int .u8 ((M : Int) % 256)] := World.ownsRow_lit wr _ 1 (Nat.le_refl _) (by decide) rfl
          have hmod : (M : Int).tmod 256 = (M : Int) % 256 := Int.tmod_eq_emod_of_nonneg (by omega)
          have hdiv : (M : Int).tdiv 256 = (M : Int) / 256 := Int.tdiv_eq_ediv_of_nonneg (by omega)
          have hw8 : IntKind.u8.wrap ((M : Int) % 256) = (M : Int) % 256 := by rw [IntKind.wrap_u8]; omega
          rcases hb with ⟨hb, rfl⟩ | ⟨gb, cb, rfl, hb⟩
          · clear hdn hln
            have e1 : bC (layL N (j + 1)) = [Value.int .u8 ((M : Int) % 256)] ∧ (layL N (j + 1)).length = 1 := by
              rw [HDN.out, HD.out, hb]
              simp [bC]
            have HE1 := Lib.hid e1
            clear e1 hb
            go_wp2_with fail
            refine ⟨⟨j + 1, rfl, by rw [HN.out]; simp, by omega, ?_, hx.al _⟩, by simp [intOf]; omega⟩
            refine own_bytes (base := wr.heap.size) ?_
            rw [HE1.out.1, HE1.out.2]
            exact hown
          · rw [hln]
            have hlb : (bC (layL N j)).length = j := by rw [bC_length, hln]
            have hnews : ∀ q u, (bC (layL N j))[q]? = some u → (wr.alloc (.cells #[.int .u8 ((M : Int) % 256)] 5)).cell? ((⟨gb, 0, none⟩ : Addr).add q) = some u := by
              intro q u hq
              have hq' : q < (layL N j).length := by have := (List.getElem?_eq_some_iff.1 hq).1; rwa [bC_length] at this
              have := (Ext.alloc wr (.cells #[.int .u8 ((M : Int) % 256)] 5)).cell_some (hb q hq')
              simp [bC, hq'] at hq
              rw [← hq, add_eq, Nat.zero_add]
              exact this
            have HNW := Lib.hid hnews
            have HLB := Lib.hid hlb
            clear hb hnews hlb hdn hln
            go_wp2_with (at_builtin; refine wpList_append_own _ rfl _ _ 46 rfl wr.heap.size 5 i0 (.int .u8 0) 1 1 Try.underlying46 hi hz0 hz1 hz2 rfl (by decide) _ _ _ rfl hown ⟨gb, 0, none⟩ j cb (bC (layL N j)) rfl ?c0 ?c1 ?c2 ?c3 ?c4 ?c5 ?_)
            case c0 => rw [HLB.out]; omega
            case c1 => exact HNW.out
            case c2 => intro u hu; simp [bC] at hu; obtain ⟨b, _, rfl⟩ := hu; rfl
            case c3 => unfold maxLen; omega
            case c4 => omega
            case c5 => simp
            intro v' w3 hown3 hgrow _
            have x3 : Ext w1 w3 := Below.grown (hx.al _) hgrow (by have := hx.size; simp; omega) (fun q hq => by have := hx.size; simp [Value.ownBlock] at hq; omega)
            have hb3 : BytesAt w3 v' (layL N (j + 1)) := by
              refine own_bytes (base := wr.heap.size) ?_
              have e1 : bC (layL N (j + 1)) = [Value.int .u8 ((M : Int) % 256)] ++ bC (layL N j) ∧ (layL N (j + 1)).length = 1 + j := by
                rw [HDN.out, HD.out]
                exact ⟨by simp [bC], by rw [List.length_cons, layL_length]; omega⟩
              rw [e1.1, e1.2]
              exact hown3
            have HB3 := Lib.hid hb3
            clear hown3 hgrow hb3 hown
            go_wp2_with fail
            exact ⟨⟨j + 1, rfl, by rw [HN.out]; simp, by omega, HB3.out, x3⟩, by simp [intOf]; omega⟩
        · have hlt2 : ¬ (j : Int) < K := by omega
          obtain rfl : j = K := by omega
          have HE := Lib.hid (show layE N j = if 0 < M then 8 else 0 by rw [HE.out, ← HM.out])
          have HB := Lib.hid hb
          clear hb
          by_cases hM0 : 0 < M
          · have hM1 : (0 : Int) < M := by omega
            have HE8 := Lib.hid (show layE N j = 8 by rw [HE.out, if_pos hM0])
            go_wp2_with fail
            refine bodyPost_ret (v := .tuple #[.slice none 0 0, .int .i64 8]) (by simp [results, Try.results25, go_sem]) rfl ⟨_, by rw [HE8.out], .inl ⟨if_neg (by rw [HE8.out]; decide), rfl⟩, hx⟩
          · have hM1 : ¬ (0 : Int) < M := by omega
            have HE0 := Lib.hid (show layE N j = 0 by rw [HE.out, if_neg hM0])
            go_wp2_with fail
            refine bodyPost_ret (v := .tuple #[u6, .int .i64 0]) (by simp [results, Try.results25, go_sem]) rfl ⟨u6, by rw [HE0.out], by rw [show layV N j = layL N j from if_pos HE0.out]; exact HB.out, hx⟩

end Go.Proofs.Ytfkfnhehbhebeaa
