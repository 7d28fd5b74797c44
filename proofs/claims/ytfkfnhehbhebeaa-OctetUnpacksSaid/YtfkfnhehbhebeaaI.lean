/- A number is laid. -/
import Derived.Test.YtfkfnhehbhebeaaH
import Derived.Laws.MakeOwn
namespace Go.Proofs.Ytfkfnhehbhebeaa
set_option linter.unusedSimpArgs false
set_option linter.unusedVariables false
open Go.RowKit

def layE (n k : Int) : Int := if wideB k = false then 2 else if n < 0 ∨ (256 : Int) ^ k.toNat ≤ n then 8 else 0

theorem layE_big {N K : Nat} (hw : wideB (K : Int) = true) (h : ((N : Int) / 2 ^ (8 * K) != 0) = true) : layE N K = 8 := by
  have h1 : ¬ (N : Int) / 2 ^ (8 * K) = 0 := by simpa using h
  unfold layE
  rw [if_neg (by simp [hw]), if_pos]
  right
  show (256 : Int) ^ K ≤ N
  rw [show (2 : Int) ^ (8 * K) = 256 ^ K by rw [Int.pow_mul]; rfl] at h1
  refine Int.not_lt.1 fun hlt => h1 (Int.ediv_eq_zero_of_lt (by omega) hlt)

theorem layE_ok {N K : Nat} (hw : wideB (K : Int) = true) (h : ((N : Int) / 2 ^ (8 * K) != 0) = false) : layE N K = 0 := by
  have h1 : (N : Int) / 2 ^ (8 * K) = 0 := by simpa using h
  unfold layE
  rw [if_neg (by simp [hw]), if_neg]
  rw [show (2 : Int) ^ (8 * K) = 256 ^ K by rw [Int.pow_mul]; rfl] at h1
  have hp : (0 : Int) < 256 ^ K := Int.pow_pos (by decide)
  have h2 : ¬ (256 : Int) ^ K ≤ N := fun x => by
    have := Int.le_ediv_of_mul_le (a := 1) hp (by rw [Int.one_mul]; exact x)
    omega
  simp only [Int.toNat_natCast]
  omega

theorem info5 : (Try.prog.info? 5).map (fun i => (i.zero, i.size, i.bytes)) = some (some (.int .u8 0), 1, 1) := by kernel_rfl

theorem make_bytes (w : World) (K : Nat) (h : K ≤ 1000) : (Instr.makeSlice 46 (.int .i64 (K : Int)) (.int .i64 (K : Int))).run Try.prog w = .ok (.slice (some ⟨w.heap.size, 0, none⟩) K K) (w.alloc (.cells (madeCells #[.int .u8 0] K) 5)) := by
  obtain ⟨i0, hi, hz0, hz1, hz2⟩ := info_parts info5
  have h := run_make (P := Try.prog) w 46 5 i0 (.int .u8 0) Try.underlying46 hi hz0 .i64 .i64 K K (by omega) (by omega) (by rw [hz2]; omega) (by omega)
  rw [hz1] at h
  simpa [Value.cells] using h

theorem made_cell (w : World) (K q : Nat) (h : q < K) : (w.alloc (.cells (madeCells #[.int .u8 0] K) 5)).cell? ⟨w.heap.size, q, none⟩ = some (.int .u8 0) := by
  rw [World.cell?_alloc_mark]
  simp [madeCells, h, Nat.mod_one]

theorem made_free (w : World) (K q : Nat) : (w.alloc (.cells (madeCells #[.int .u8 0] K) 5)).frozen? ⟨w.heap.size, q, none⟩ = false := by
  go_simp

/-- The i-th digit, of 256 each, from behind. -/
def digit (N i : Nat) : Nat := N / 256 ^ i % 256

/-- The last j of K bytes are laid. -/
def Laid (w : World) (g K N j : Nat) : Prop := ∀ q, q < K → w.cell? ⟨g, q, none⟩ = some (.int .u8 (if K ≤ q + j then (digit N (K - 1 - q) : Int) else 0)) ∧ w.frozen? ⟨g, q, none⟩ = false

theorem Laid.start (w : World) (K N : Nat) : Laid (w.alloc (.cells (madeCells #[.int .u8 0] K) 5)) w.heap.size K N 0 := fun q h => ⟨by rw [made_cell w K q h, if_neg (by omega)], made_free w K q⟩

theorem Laid.next {w : World} {g K N j : Nat} (h : Laid w g K N j) (hj : j < K) : Laid (w.setCell ⟨g, K - 1 - j, none⟩ (.int .u8 (digit N j : Int))) g K N (j + 1) := by
  intro q hq
  obtain ⟨h1, h2⟩ := h q hq
  obtain ⟨h3, h4⟩ := h (K - 1 - j) (by omega)
  by_cases he : q = K - 1 - j
  · subst he
    refine ⟨?_, by go_simp⟩
    rw [if_pos (by omega), show K - 1 - (K - 1 - j) = j by omega]
    go_simp
  · refine ⟨?_, by go_simp⟩
    have : (if K ≤ q + (j + 1) then (digit N (K - 1 - q) : Int) else 0) = (if K ≤ q + j then (digit N (K - 1 - q) : Int) else 0) := by
      by_cases hc : K ≤ q + j
      · rw [if_pos (by omega), if_pos hc]
      · rw [if_neg (by omega), if_neg hc]
    rw [this]
    go_simp

/-- A slice of these bytes. -/
def BytesAt (w : World) (v : Value) (l : List UInt8) : Prop :=
  (l = [] ∧ v = .slice none 0 0) ∨ ∃ g c, v = .slice (some ⟨g, 0, none⟩) l.length c ∧ ∀ j (h : j < l.length), w.cell? ⟨g, j, none⟩ = some (.int .u8 (l[j].toNat : Int))

theorem BytesAt.ext {w w' : World} {v : Value} {l : List UInt8} (h : BytesAt w v l) (x : Ext w w') : BytesAt w' v l := by
  rcases h with h | ⟨g, c, hv, hc⟩
  · exact .inl h
  · exact .inr ⟨g, c, hv, fun j hj => x.cell_some (hc j hj)⟩

/-- A number's bytes. -/
def layL (N K : Nat) : List UInt8 := (List.range K).map fun q => UInt8.ofNat (digit N (K - 1 - q))

theorem Laid.bytes {w : World} {g K N c : Nat} (h : Laid w g K N K) : BytesAt w (.slice (some ⟨g, 0, none⟩) K c) (layL N K) := by
  refine .inr ⟨g, c, by simp [layL], fun j hj => ?_⟩
  have hj' : j < K := by simpa [layL] using hj
  obtain ⟨h1, _⟩ := h j hj'
  rw [h1, if_pos (by omega)]
  have : digit N (K - 1 - j) < 256 := Nat.mod_lt _ (by decide)
  simp only [layL, List.getElem_map, List.getElem_range, UInt8.toNat_ofNat']
  rw [Nat.mod_eq_of_lt this]

def layV (n k : Int) : List UInt8 := if layE n k = 0 then layL n.toNat k.toNat else []

set_option maxRecDepth 100000 in
set_option maxHeartbeats 8000000 in
theorem lay_any (w : World) (n k : Int) : Calls Try.prog 24 #[.int .i64 n, .int .i64 k] w fun e w' => ∃ v, e = .returned (.tuple #[v, .int .i64 (layE n k)]) ∧ BytesAt w' v (layV n k) ∧ Ext w w' := by
  by_cases hw : wideB k = true
  case' neg =>
    have hwf : wideB k = false := by simpa using hw
    have HE := Lib.hid (show layE n k = 2 from if_pos hwf)
    have HW := Lib.hid hwf
    clear hw hwf
    go_enter Try.func24, Try.ntmps24
    go_wp2_with fail
    refine (wide_any _ k).mono ?_
    rintro e w1 ⟨rfl, rfl⟩
    rw [HW.out]
    go_wp2_with fail
    refine bodyPost_ret (v := .tuple #[.slice none 0 0, .int .i64 2]) (by simp [results, Try.results24, go_sem]) rfl ⟨_, by rw [HE.out], .inl ⟨if_neg (by rw [HE.out]; decide), rfl⟩, Ext.refl _⟩
  case' pos =>
    have hk := wide_bounds hw
    have HW := Lib.hid hw
    by_cases hn : n < 0
    case' pos =>
      have HE := Lib.hid (show layE n k = 8 by unfold layE; rw [if_neg (by simp [hw]), if_pos (.inl hn)])
      clear hw
      go_enter Try.func24, Try.ntmps24
      go_wp2_with fail
      refine (wide_any _ k).mono ?_
      rintro e w1 ⟨rfl, rfl⟩
      rw [HW.out]
      go_wp2_with fail
      refine bodyPost_ret (v := .tuple #[.slice none 0 0, .int .i64 8]) (by simp [results, Try.results24, go_sem]) rfl ⟨_, by rw [HE.out], .inl ⟨if_neg (by rw [HE.out]; decide), rfl⟩, Ext.refl _⟩
    case' neg =>
      obtain ⟨K, rfl⟩ : ∃ K : Nat, k = K := ⟨k.toNat, by omega⟩
      obtain ⟨N, rfl⟩ : ∃ N : Nat, n = N := ⟨n.toNat, by omega⟩
      by_cases hq : ((N : Int) / 2 ^ (8 * K) != 0) = true
      case' pos =>
        have HE := Lib.hid (layE_big hw hq)
        have hn' : ¬ (N : Int) < 0 := by omega
        clear hw
        go_enter Try.func24, Try.ntmps24
        go_wp2_with fail
        refine (wide_any _ _).mono ?_
        rintro e w1 ⟨rfl, rfl⟩
        rw [HW.out]
        go_wp2_with fail
        refine bodyPost_ret (v := .tuple #[.slice none 0 0, .int .i64 8]) (by simp [results, Try.results24, go_sem]) rfl ⟨_, by rw [HE.out], .inl ⟨if_neg (by rw [HE.out]; decide), rfl⟩, Ext.refl _⟩
      case' neg =>
        have hq : ((N : Int) / 2 ^ (8 * K) != 0) = false := by simpa using hq
        have HE := Lib.hid (layE_ok hw hq)
        have hn' : ¬ (N : Int) < 0 := by omega
        have hmk := fun w => make_bytes w K (by omega)
        clear hw
        go_enter Try.func24, Try.ntmps24
        go_wp2_with fail
        refine (wide_any _ _).mono ?_
        rintro e w1 ⟨rfl, rfl⟩
        rw [HW.out]
        go_wp2_with fail
        have hL := Laid.start w1 K N
        have hX : Ext w1 (w1.alloc (.cells (madeCells #[.int .u8 0] K) 5)) := Ext.alloc _ _
        generalize w1.alloc (.cells (madeCells #[.int .u8 0] K) 5) = v1 at *
        clear hmk hq
        go_loopw [7, 23] (fun _ i wr => ∃ j : Nat, i = .int .i64 j ∧ j ≤ K ∧ Laid wr w1.heap.size K N j ∧ Ext w1 wr) (fun _ i _ => K - (intOf i).toNat)
        case atStart => exact ⟨0, rfl, by omega, hL, hX⟩
        case round =>
          clear hL hX
          obtain ⟨j, rfl, hj, hL, hx⟩ := hrel
          by_cases hlt : j < K
          · have hlt2 : (j : Int) < K := by omega
            have hi1 : (0 : Int) ≤ K - 1 - j := by omega
            have hi2 : (K : Int) - 1 - j < K := by omega
            have hi3 : ((K : Int) - 1 - j).toNat = K - 1 - j := by omega
            obtain ⟨d1, d2⟩ := hL (K - 1 - j) (by omega)
            have HL := Lib.hid hL
            clear hL
            go_wp2_with fail
            refine ⟨⟨j + 1, rfl, by omega, ?_, Ext.set hx (Nat.le_refl _) _⟩, by simp [intOf]; omega⟩
            have h := HL.out.next hlt
            rw [show (2 : Int) ^ (8 * j) = 256 ^ j by rw [Int.pow_mul]; rfl]
            exact h
          · have hlt2 : ¬ (j : Int) < K := by omega
            have hje : j = K := by omega
            have HL := Lib.hid hL
            clear hL
            go_wp2_with fail
            refine bodyPost_ret (v := .tuple #[.slice (some ⟨w1.heap.size, 0, none⟩) K K, .int .i64 0]) (by simp [results, Try.results24, go_sem]) rfl ⟨_, by rw [HE.out], ?_, hx⟩
            rw [show layV N K = layL N K from if_pos HE.out]
            exact Laid.bytes (hje ▸ HL.out)

end Go.Proofs.Ytfkfnhehbhebeaa
