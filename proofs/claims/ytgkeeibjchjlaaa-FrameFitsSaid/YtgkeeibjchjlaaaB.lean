/- A number is laid; texts that are the same. -/
import Derived.Test.YtgkeeibjchjlaaaA
import Derived.Laws.MakeOwn
import Derived.Laws.OwnMore
import Derived.Lib.AppendStr
namespace Go.Proofs.Ytgkeeibjchjlaaa
set_option linter.unusedSimpArgs false
set_option linter.unusedVariables false
open Go.RowKit

theorem RBox.put1 {w : World} {g : Nat} {s : ByteArray} {p b : Int} (h : RBox w g s p b) (v : Int) : RBox (w.setCell ⟨g, 1, none⟩ (.int .i64 v)) g s v b := by
  obtain ⟨⟨c0, c1, c2⟩, ⟨f0, f1, f2⟩⟩ := h
  exact ⟨⟨by go_simp, by go_simp, by go_simp⟩, ⟨by go_simp, by go_simp, by go_simp⟩⟩

theorem RBox.other {w : World} {g : Nat} {s : ByteArray} {p b : Int} (h : RBox w g s p b) {b' o : Nat} {u : Value} (hne : g ≠ b') : RBox (w.setCell ⟨b', o, none⟩ u) g s p b := by
  obtain ⟨⟨c0, c1, c2⟩, ⟨f0, f1, f2⟩⟩ := h
  have hb : (w.setCell ⟨b', o, none⟩ u).heap[g]? = w.heap[g]? := Below.heap_setCell _ _ _ _ hne
  exact ⟨⟨(World.cell?_of_block (w := w) hb).trans c0, (World.cell?_of_block (w := w) hb).trans c1, (World.cell?_of_block (w := w) hb).trans c2⟩, ⟨(World.frozen?_of_block (w := w) hb).trans f0, (World.frozen?_of_block (w := w) hb).trans f1, (World.frozen?_of_block (w := w) hb).trans f2⟩⟩


theorem RBox.seenR {w w' : World} {g : Nat} {s : ByteArray} {p b : Int} {row : Option Nat} (h : RBox w g s p b) (hn : some g ≠ row) (x : Gr row w w') : w'.cell? ⟨g, 0, none⟩ = some (.string s) ∧ w'.cell? ⟨g, 1, none⟩ = some (.int .i64 p) ∧ w'.cell? ⟨g, 2, none⟩ = some (.int .i64 b) := by
  obtain ⟨c0, c1, c2⟩ := h.cells
  exact ⟨x.cell_some c0 hn, x.cell_some c1 hn, x.cell_some c2 hn⟩





def layE (n k : Int) : Int := if wideB k = false then 2 else if n < 0 ∨ (256 : Int) ^ k.toNat ≤ n then 8 else 0


theorem layE_big {N K : Nat} (hw : wideB (K : Int) = true) (h : ((N : Int) / 2 ^ (8 * K) != 0) = true) : layE N K = 8 := by
  have h1 : ¬ (N : Int) / 2 ^ (8 * K) = 0 := by simpa using h
  unfold layE
  rw [if_neg (by simp [hw]), if_pos]
  right
  show (256 : Int) ^ K ≤ N
  rw [show (2 : Int) ^ (8 * K) = 256 ^ K by rw [Int.pow_mul]; rfl] at h1
  refine Int.not_lt.1 fun hlt => h1 (Int.ediv_eq_zero_of_lt (by omega) hlt)


theorem layE_ok {N K : Nat} (hw : wideB (K : Int) = true) (h : ((N : Int) / 2 ^ (8 * K) != 0) = false) : layE N K = 0 := by
  have h1 : (N : Int) / 2 ^ (8 * K) = 0 := by simpa using h
  unfold layE
  rw [if_neg (by simp [hw]), if_neg]
  rw [show (2 : Int) ^ (8 * K) = 256 ^ K by rw [Int.pow_mul]; rfl] at h1
  have hp : (0 : Int) < 256 ^ K := Int.pow_pos (by decide)
  have h2 : ¬ (256 : Int) ^ K ≤ N := fun x => by
    have := Int.le_ediv_of_mul_le (a := 1) hp (by rw [Int.one_mul]; exact x)
    omega
  simp only [Int.toNat_natCast]
  omega


theorem info5 : (Try.prog.info? 5).map (fun i => (i.zero, i.size, i.bytes)) = some (some (.int .u8 0), 1, 1) := by kernel_rfl


theorem make_bytes (w : World) (K : Nat) (h : K ≤ 1000) : (Instr.makeSlice 45 (.int .i64 (K : Int)) (.int .i64 (K : Int))).run Try.prog w = .ok (.slice (some ⟨w.heap.size, 0, none⟩) K K) (w.alloc (.cells (madeCells #[.int .u8 0] K) 5)) := by
  obtain ⟨i0, hi, hz0, hz1, hz2⟩ := info_parts info5
  have h := run_make (P := Try.prog) w 45 5 i0 (.int .u8 0) Try.underlying45 hi hz0 .i64 .i64 K K (by omega) (by omega) (by rw [hz2]; omega) (by omega)
  rw [hz1] at h
  simpa [Value.cells] using h


theorem made_cell (w : World) (K q : Nat) (h : q < K) : (w.alloc (.cells (madeCells #[.int .u8 0] K) 5)).cell? ⟨w.heap.size, q, none⟩ = some (.int .u8 0) := by
  rw [World.cell?_alloc_mark]
  simp [madeCells, h, Nat.mod_one]


theorem made_free (w : World) (K q : Nat) : (w.alloc (.cells (madeCells #[.int .u8 0] K) 5)).frozen? ⟨w.heap.size, q, none⟩ = false := by
  go_simp


/-- The i-th digit, of 256 each, from behind. -/
def digit (N i : Nat) : Nat := N / 256 ^ i % 256


/-- The last j of K bytes are laid. -/
def Laid (w : World) (g K N j : Nat) : Prop := ∀ q, q < K → w.cell? ⟨g, q, none⟩ = some (.int .u8 (if K ≤ q + j then (digit N (K - 1 - q) : Int) else 0)) ∧ w.frozen? ⟨g, q, none⟩ = false


theorem Laid.start (w : World) (K N : Nat) : Laid (w.alloc (.cells (madeCells #[.int .u8 0] K) 5)) w.heap.size K N 0 := fun q h => ⟨by rw [made_cell w K q h, if_neg (by omega)], made_free w K q⟩


theorem Laid.next {w : World} {g K N j : Nat} (h : Laid w g K N j) (hj : j < K) : Laid (w.setCell ⟨g, K - 1 - j, none⟩ (.int .u8 (digit N j : Int))) g K N (j + 1) := by
  intro q hq
  obtain ⟨h1, h2⟩ := h q hq
  obtain ⟨h3, h4⟩ := h (K - 1 - j) (by omega)
  by_cases he : q = K - 1 - j
  · subst he
    refine ⟨?_, by go_simp⟩
    rw [if_pos (by omega), show K - 1 - (K - 1 - j) = j by omega]
    go_simp
  · refine ⟨?_, by go_simp⟩
    have : (if K ≤ q + (j + 1) then (digit N (K - 1 - q) : Int) else 0) = (if K ≤ q + j then (digit N (K - 1 - q) : Int) else 0) := by
      by_cases hc : K ≤ q + j
      · rw [if_pos (by omega), if_pos hc]
      · rw [if_neg (by omega), if_neg hc]
    rw [this]
    go_simp


/-- A slice of these bytes. -/
def BytesAt (w : World) (v : Value) (l : List UInt8) : Prop :=
  (l = [] ∧ v = .slice none 0 0) ∨ ∃ g c, v = .slice (some ⟨g, 0, none⟩) l.length c ∧ ∀ j (h : j < l.length), w.cell? ⟨g, j, none⟩ = some (.int .u8 (l[j].toNat : Int))


theorem BytesAt.ext {w w' : World} {v : Value} {l : List UInt8} (h : BytesAt w v l) (x : Ext w w') : BytesAt w' v l := by
  rcases h with h | ⟨g, c, hv, hc⟩
  · exact .inl h
  · exact .inr ⟨g, c, hv, fun j hj => x.cell_some (hc j hj)⟩


/-- A number's bytes. -/
def layL (N K : Nat) : List UInt8 := (List.range K).map fun q => UInt8.ofNat (digit N (K - 1 - q))


theorem Laid.bytes {w : World} {g K N c : Nat} (h : Laid w g K N K) : BytesAt w (.slice (some ⟨g, 0, none⟩) K c) (layL N K) := by
  refine .inr ⟨g, c, by simp [layL], fun j hj => ?_⟩
  have hj' : j < K := by simpa [layL] using hj
  obtain ⟨h1, _⟩ := h j hj'
  rw [h1, if_pos (by omega)]
  have : digit N (K - 1 - j) < 256 := Nat.mod_lt _ (by decide)
  simp only [layL, List.getElem_map, List.getElem_range, UInt8.toNat_ofNat']
  rw [Nat.mod_eq_of_lt this]


def layV (n k : Int) : List UInt8 := if layE n k = 0 then layL n.toNat k.toNat else []


set_option maxRecDepth 100000 in
set_option maxHeartbeats 8000000 in
theorem lay_any (w : World) (n k : Int) : Calls Try.prog 27 #[.int .i64 n, .int .i64 k] w fun e w' => ∃ v, e = .returned (.tuple #[v, .int .i64 (layE n k)]) ∧ BytesAt w' v (layV n k) ∧ Ext w w' := by
  by_cases hw : wideB k = true
  case' neg =>
    have hwf : wideB k = false := by simpa using hw
    have HE := Lib.hid (show layE n k = 2 from if_pos hwf)
    have HW := Lib.hid hwf
    clear hw hwf
    go_enter Try.func27, Try.ntmps27
    go_wp2_with fail
    refine (wide_any _ k).mono ?_
    rintro e w1 ⟨rfl, rfl⟩
    rw [HW.out]
    go_wp2_with fail
    refine bodyPost_ret (v := .tuple #[.slice none 0 0, .int .i64 2]) (by simp [results, Try.results27, go_sem]) rfl ⟨_, by rw [HE.out], .inl ⟨if_neg (by rw [HE.out]; decide), rfl⟩, Ext.refl _⟩
  case' pos =>
    have hk := wide_bounds hw
    have HW := Lib.hid hw
    by_cases hn : n < 0
    case' pos =>
      have HE := Lib.hid (show layE n k = 8 by unfold layE; rw [if_neg (by simp [hw]), if_pos (.inl hn)])
      clear hw
      go_enter Try.func27, Try.ntmps27
      go_wp2_with fail
      refine (wide_any _ k).mono ?_
      rintro e w1 ⟨rfl, rfl⟩
      rw [HW.out]
      go_wp2_with fail
      refine bodyPost_ret (v := .tuple #[.slice none 0 0, .int .i64 8]) (by simp [results, Try.results27, go_sem]) rfl ⟨_, by rw [HE.out], .inl ⟨if_neg (by rw [HE.out]; decide), rfl⟩, Ext.refl _⟩
    case' neg =>
      obtain ⟨K, rfl⟩ : ∃ K : Nat, k = K := ⟨k.toNat, by omega⟩
      obtain ⟨N, rfl⟩ : ∃ N : Nat, n = N := ⟨n.toNat, by omega⟩
      by_cases hq : ((N : Int) / 2 ^ (8 * K) != 0) = true
      case' pos =>
        have HE := Lib.hid (layE_big hw hq)
        have hn' : ¬ (N : Int) < 0 := by omega
        clear hw
        go_enter Try.func27, Try.ntmps27
        go_wp2_with fail
        refine (wide_any _ _).mono ?_
        rintro e w1 ⟨rfl, rfl⟩
        rw [HW.out]
        go_wp2_with fail
        refine bodyPost_ret (v := .tuple #[.slice none 0 0, .int .i64 8]) (by simp [results, Try.results27, go_sem]) rfl ⟨_, by rw [HE.out], .inl ⟨if_neg (by rw [HE.out]; decide), rfl⟩, Ext.refl _⟩
      case' neg =>
        have hq : ((N : Int) / 2 ^ (8 * K) != 0) = false := by simpa using hq
        have HE := Lib.hid (layE_ok hw hq)
        have hn' : ¬ (N : Int) < 0 := by omega
        have hmk := fun w => make_bytes w K (by omega)
        clear hw
        go_enter Try.func27, Try.ntmps27
        go_wp2_with fail
        refine (wide_any _ _).mono ?_
        rintro e w1 ⟨rfl, rfl⟩
        rw [HW.out]
        go_wp2_with fail
        have hL := Laid.start w1 K N
        have hX : Ext w1 (w1.alloc (.cells (madeCells #[.int .u8 0] K) 5)) := Ext.alloc _ _
        generalize w1.alloc (.cells (madeCells #[.int .u8 0] K) 5) = v1 at *
        clear hmk hq
        go_loopw [7, 23] (fun _ i wr => ∃ j : Nat, i = .int .i64 j ∧ j ≤ K ∧ Laid wr w1.heap.size K N j ∧ Ext w1 wr) (fun _ i _ => K - (intOf i).toNat)
        case atStart => exact ⟨0, rfl, by omega, hL, hX⟩
        case round =>
          clear hL hX
          obtain ⟨j, rfl, hj, hL, hx⟩ := hrel
          by_cases hlt : j < K
          · have hlt2 : (j : Int) < K := by omega
            have hi1 : (0 : Int) ≤ K - 1 - j := by omega
            have hi2 : (K : Int) - 1 - j < K := by omega
            have hi3 : ((K : Int) - 1 - j).toNat = K - 1 - j := by omega
            obtain ⟨d1, d2⟩ := hL (K - 1 - j) (by omega)
            have HL := Lib.hid hL
            clear hL
            go_wp2_with fail
            refine ⟨⟨j + 1, rfl, by omega, ?_, Ext.set hx (Nat.le_refl _) _⟩, by simp [intOf]; omega⟩
            have h := HL.out.next hlt
            rw [show (2 : Int) ^ (8 * j) = 256 ^ j by rw [Int.pow_mul]; rfl]
            exact h
          · have hlt2 : ¬ (j : Int) < K := by omega
            have hje : j = K := by omega
            have HL := Lib.hid hL
            clear hL
            go_wp2_with fail
            refine bodyPost_ret (v := .tuple #[.slice (some ⟨w1.heap.size, 0, none⟩) K K, .int .i64 0]) (by simp [results, Try.results27, go_sem]) rfl ⟨_, by rw [HE.out], ?_, hx⟩
            rw [show layV N K = layL N K from if_pos HE.out]
            exact Laid.bytes (hje ▸ HL.out)



/-- Bytes as cells. -/
def bC (l : List UInt8) : List Value := l.map fun b => Value.int .u8 b.toNat


theorem bC_length (l : List UInt8) : (bC l).length = l.length := by simp [bC]

theorem bC_append (a b : List UInt8) : bC (a ++ b) = bC a ++ bC b := by simp [bC]


theorem own_bytes {w : World} {base : Nat} {v : Value} {l : List UInt8} (h : w.ownsRow base 5 1 v l.length (bC l)) : BytesAt w v l := by
  have h' := h
  obtain ⟨_, h | ⟨g, cap, cur, hv, _, hb, hn, hm, hs, ht⟩⟩ := h
  · obtain ⟨rfl, h0⟩ := h
    exact .inl ⟨List.eq_nil_of_length_eq_zero h0, rfl⟩
  · refine .inr ⟨g, cap, hv, fun j hj => ?_⟩
    rw [World.ownsRow.cellAt (hv ▸ h') j (by omega)]
    simp [bC, hj]


theorem size_list (s : ByteArray) : s.data.toList.length = s.size := by rw [Array.length_toList]; rfl


/-- The cells of a slice of texts. -/
def TextsAt (w : World) (a : Option Addr) (l : List ByteArray) : Prop :=
  l = [] ∨ ∃ g o, a = some ⟨g, o, none⟩ ∧ ∀ j (h : j < l.length), w.cell? ⟨g, o + j, none⟩ = some (.string l[j])


theorem TextsAt.ext {w w' : World} {a : Option Addr} {l : List ByteArray} (h : TextsAt w a l) (x : Ext w w') : TextsAt w' a l := by
  rcases h with h | ⟨g, o, ha, hc⟩
  · exact .inl h
  · exact .inr ⟨g, o, ha, fun j hj => x.cell_some (hc j hj)⟩


theorem TextsAt.get {w : World} {a : Option Addr} {l : List ByteArray} (h : TextsAt w a l) {j : Nat} (hj : j < l.length) : ∃ g o, a = some ⟨g, o, none⟩ ∧ w.cell? ⟨g, o + j, none⟩ = some (.string l[j]) := by
  rcases h with rfl | ⟨g, o, ha, hc⟩
  · simp at hj
  · exact ⟨g, o, ha, hc j hj⟩


theorem add_eq (g o n : Nat) : (⟨g, o, none⟩ : Addr).add n = ⟨g, o + n, none⟩ := by
  unfold Addr.add; split
  · rename_i h; subst h; rfl
  · rfl


theorem own_bytes_slice {w : World} {base : Nat} {v : Value} {l : List UInt8} (h : w.ownsRow base 5 1 v l.length (bC l)) : ∃ a c, v = .slice a l.length c := by
  obtain ⟨_, h | ⟨g, cap, cur, hv, _⟩⟩ := h
  · obtain ⟨rfl, h0⟩ := h
    exact ⟨none, 0, by rw [h0]⟩
  · exact ⟨_, _, hv⟩


set_option maxRecDepth 100000 in
set_option maxHeartbeats 8000000 in
theorem same_any (w : World) (a b : Option Addr) (c d : Nat) (l : List ByteArray) (hA : Hid (TextsAt w a l)) (hB : Hid (TextsAt w b l)) (hl : l.length ≤ 1000000) :
    Calls Try.prog 12 #[.slice a l.length c, .slice b l.length d] w fun e w' => e = .returned (.bool true) ∧ Ext w w' := by
  go_enter Try.func12, Try.ntmps12
  go_wp2_with fail
  go_loopw [5] (fun i wr => ∃ j : Nat, i = .int .i64 j ∧ j ≤ l.length ∧ Ext w wr) (fun i _ => l.length - (intOf i).toNat)
  case atStart => exact ⟨0, rfl, by omega, Ext.refl w⟩
  case round =>
    obtain ⟨j, rfl, hj, hx⟩ := hrel
    by_cases hlt : j < l.length
    · have hlt2 : (j : Int) < l.length := by omega
      obtain ⟨g, o, rfl, hc⟩ := (hA.out.ext hx).get hlt
      obtain ⟨g', o', rfl, hc'⟩ := (hB.out.ext hx).get hlt
      generalize l[j] = s at *
      go_wp2_with fail
      refine region_held none [(0, true), (1, true), (2, true), (3, true), (4, true), (5, true), (6, true), (7, true), (8, true)] [] (by kernel_rfl) (by kernel_rfl) (fun _ _ d _ _ h => by cases d <;> exact h) (fun W hW => ?_)
      simp only [pick, pickF, List.getElem?_cons_zero, List.getElem?_cons_succ]
      have xW : Ext wr W := hW ▸ Ext.drew _
      have hx := hx.trans xW
      have hc := xW.cell_some hc
      have hc' := xW.cell_some hc'
      clear hW xW
      have q1 : ∀ w1, Gr none W w1 → w1.cell? _ = _ := fun w1 h => h.cell_some hc (by simp)
      have q2 : ∀ w1, Gr none W w1 → w1.cell? _ = _ := fun w1 h => h.cell_some hc' (by simp)
      have hgr := Gr.refl none W
      iterate 9
        refine held_yes hgr _ rfl (fun w1 hw1 => by unfold Oper.quietAt; go_simp; rfl) ?_
        simp only [Act.put, List.setIfInBounds_toArray, List.set_cons_zero, List.set_cons_succ]
      refine held_nil ?_
      go_wp2_with fail
      exact ⟨⟨j + 1, rfl, by omega, hx⟩, by simp [intOf]; omega⟩
    · have hlt2 : ¬ (j : Int) < l.length := by omega
      go_wp2_with fail
      go_ret
      exact ⟨rfl, hx⟩


theorem BytesAt.back {w : World} {v : Value} {l : List UInt8} (h : BytesAt w v l) : (convert 45 9 v).run Try.prog w = .ok (.string ⟨l.toArray⟩) w := by
  rcases h with ⟨rfl, rfl⟩ | ⟨g, c, rfl, hc⟩
  · exact run_convert_bytes_nil (P := Try.prog) w 45 5 Try.underlying45 Try.underlying5 0 0 9 Try.underlying9
  · exact run_convert_bytes_back w 45 9 5 ⟨g, 0, none⟩ c l Try.underlying45 Try.underlying5 Try.underlying9 (fun j hj => by rw [add_eq, Nat.zero_add]; exact hc j hj)


end Go.Proofs.Ytgkeeibjchjlaaa
