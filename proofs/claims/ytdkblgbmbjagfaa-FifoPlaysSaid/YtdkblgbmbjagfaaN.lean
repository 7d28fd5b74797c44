/- The document's ring, said of lists: each method's answer. -/
import Derived.Test.YtdkblgbmbjagfaaM
namespace Go.Proofs.Ytdkblgbmbjagfaa
open Go.RowKit

/-- The cells of the ring v are new, or in the block of those of u. -/
def Src (B : Nat) (u v : Value) : Prop := ∀ (n : Value) g o c l, v = .agg #[n, .slice (some ⟨g, o, none⟩) l c] → B ≤ g ∨ ∃ o c l, u = .agg #[n, .slice (some ⟨g, o, none⟩) l c]

theorem Src.same (B : Nat) (v : Value) : Src B v v := fun n g o c l h => .inr ⟨o, c, l, h⟩

theorem agg2 {x x' s s' : Value} (h : Value.agg #[x, s] = .agg #[x', s']) : x = x' ∧ s = s' := by
  injection h with h; injection h with h; injection h with h1 h; injection h with h2 _; exact ⟨h1, h2⟩

theorem Src.cut {B g o c m : Nat} {x s : Value} (h : ∀ g' o' c' l', s = .slice (some ⟨g', o', none⟩) l' c' → g' = g) : Src B (.agg #[x, .slice (some ⟨g, o, none⟩) m c]) (.agg #[x, s]) := fun n g' o' c' l' he => by
  obtain ⟨h1, h2⟩ := agg2 he
  have := h g' o' c' l' h2
  subst this h1
  exact .inr ⟨o, c, m, rfl⟩

theorem Src.new {B : Nat} {u x s : Value} (h : ∀ g o c l, s = .slice (some ⟨g, o, none⟩) l c → B ≤ g) : Src B u (.agg #[x, s]) := fun n g o c l he => .inl (h g o c l (agg2 he).2)

/-- What a method of the document's ring hands back: a ring that holds L, and some values more. -/
def Rets (n : Int) (u : Value) (L : List Int) (rest : List Value) (w : World) (e : Ending) (w' : World) : Prop := ∃ v, e = .returned (.tuple (v :: rest).toArray) ∧ RefR w' v n L ∧ Src w.heap.size u v ∧ Ext w w'

theorem IntsV.cells {w : World} {a : Option Addr} {m c : Nat} {L : List Int} (h : IntsV w (.slice a m c) L) : m = L.length ∧ CellsAt w a L := by
  obtain ⟨_, ⟨h, rfl⟩ | ⟨g, o, c', h, _, hc⟩⟩ := h
  · cases h; exact ⟨rfl, .inl rfl⟩
  · cases h
    refine ⟨rfl, ?_⟩
    cases L with
    | nil => exact .inl rfl
    | cons x r => exact .inr ⟨g, o, rfl, lt_of_cell (hc 0 (by simp)), hc⟩

theorem IntsV.sub {w : World} {g o c : Nat} {L : List Int} (h : IntsV w (.slice (some ⟨g, o, none⟩) L.length c) L) (d : Nat) (hd : d ≤ L.length) : IntsV w (.slice (some ⟨g, o + d, none⟩) (L.length - d) (c - d)) (L.drop d) := by
  obtain ⟨hm, ⟨h, _⟩ | ⟨g', o', c', h, hl, hc⟩⟩ := h
  · cases h
  · cases h
    refine ⟨by simp; omega, .inr ⟨g, o + d, c - d, by simp, ⟨by simp; omega, hl.2⟩, fun j hj => ?_⟩⟩
    simp at hj
    rw [Nat.add_assoc, hc (d + j) (by omega)]
    simp [List.getD_eq_getElem?_getD]

variable (w : World) (v : Value) (n : Int) (L : List Int)

theorem put_ref (x : Int) (h : RefR w v n L) (hl : L.length ≤ 900000) : Calls Try.prog 31 #[v, .int .i64 x] w (Rets n v (putL n L x) [.bool (fits n L)] w) := by
  obtain ⟨s, rfl, hs⟩ := h
  obtain ⟨a, m, c, rfl⟩ : ∃ a m c, s = .slice a m c := by
    obtain ⟨_, ⟨rfl, _⟩ | ⟨g, o, c, rfl, _⟩⟩ := hs <;> exact ⟨_, _, _, rfl⟩
  obtain ⟨hm, _⟩ := hs.cells
  by_cases hf : (m : Int) < n
  · have e1 : fits n L = true := by simp [fits]; omega
    rw [putL, e1, if_pos rfl]
    refine (rput_room w n x a m c L hm (Lib.hid hs) (by omega) hf).mono ?_
    rintro e w' ⟨s, rfl, hi, hs, hx⟩
    exact ⟨_, rfl, ⟨s, rfl, hi⟩, Src.new hs, hx⟩
  · have e1 : fits n L = false := by simp [fits]; omega
    rw [putL, e1, if_neg (by simp)]
    refine (rput_full w n x a m c (by omega)).mono ?_
    rintro e w' ⟨rfl, hx⟩
    exact ⟨_, rfl, ⟨_, rfl, hs.ext hx⟩, Src.same _ _, hx⟩

theorem push_ref (x : Int) (h : RefR w v n L) (hl : L.length ≤ 900000) : Calls Try.prog 27 #[v, .int .i64 x] w (Rets n v (pushL n L x) [.bool (fits n L)] w) := by
  obtain ⟨s, rfl, hs⟩ := h
  obtain ⟨a, m, c, rfl⟩ : ∃ a m c, s = .slice a m c := by
    obtain ⟨_, ⟨rfl, _⟩ | ⟨g, o, c, rfl, _⟩⟩ := hs <;> exact ⟨_, _, _, rfl⟩
  obtain ⟨hm, _⟩ := hs.cells
  by_cases hf : (m : Int) < n
  · have e1 : fits n L = true := by simp [fits]; omega
    rw [pushL, e1, if_pos rfl]
    refine (rpush_room w n x a m c L hm (Lib.hid hs) (by omega) hf).mono ?_
    rintro e w' ⟨s, rfl, hi, hs, hx⟩
    exact ⟨_, rfl, ⟨s, rfl, hi⟩, Src.new hs, hx⟩
  · have e1 : fits n L = false := by simp [fits]; omega
    rw [pushL, e1, if_neg (by simp)]
    refine (rpush_full w n x a m c (by omega)).mono ?_
    rintro e w' ⟨rfl, hx⟩
    exact ⟨_, rfl, ⟨_, rfl, hs.ext hx⟩, Src.same _ _, hx⟩

theorem take_ref (h : RefR w v n L) : Calls Try.prog 28 #[v] w (Rets n v L.tail [.int .i64 (headV L), .bool (some' L)] w) := by
  obtain ⟨s, rfl, hs⟩ := h
  have hs' := hs
  obtain ⟨hm, ⟨rfl, rfl⟩ | ⟨g, o, c, rfl, hl, hc⟩⟩ := hs
  · refine (rtake_nil w n none 0).mono ?_
    rintro e w' ⟨rfl, hx⟩
    exact ⟨_, rfl, ⟨_, rfl, hs'.ext hx⟩, Src.same _ _, hx⟩
  · cases L with
    | nil =>
      refine (rtake_nil w n _ c).mono ?_
      rintro e w' ⟨rfl, hx⟩
      exact ⟨_, rfl, ⟨_, rfl, hs'.ext hx⟩, Src.same _ _, hx⟩
    | cons x r =>
      refine (rtake_some w n x g o _ c hm (by simp) hl.1 (by simpa using hc 0 (by simp))).mono ?_
      rintro e w' ⟨s, rfl, hcut, hx⟩
      refine ⟨_, rfl, ⟨s, rfl, ?_⟩, Src.cut (fun g' o' c' l' he => by rcases hcut with rfl | ⟨_, _, rfl⟩ <;> cases he <;> rfl), hx⟩
      rcases hcut with rfl | ⟨h1, h2, rfl⟩
      · exact (hs'.sub 1 (by simp)).ext hx
      · have : r = [] := by simpa using h1
        subst this
        exact ⟨by simp, .inr ⟨g, o, 0, rfl, ⟨by simp, Nat.lt_of_lt_of_le hl.2 hx.size⟩, fun j hj => by simp at hj⟩⟩

theorem last_ref (h : RefR w v n L) : Calls Try.prog 29 #[v] w (Rets n v L.dropLast [.int .i64 (lastV L), .bool (some' L)] w) := by
  obtain ⟨s, rfl, hs⟩ := h
  have hs' := hs
  obtain ⟨hm, ⟨rfl, rfl⟩ | ⟨g, o, c, rfl, hl, hc⟩⟩ := hs
  · refine (rlast_nil w n none 0).mono ?_
    rintro e w' ⟨rfl, hx⟩
    exact ⟨_, rfl, ⟨_, rfl, hs'.ext hx⟩, Src.same _ _, hx⟩
  · by_cases h0 : L = []
    · subst h0
      refine (rlast_nil w n _ c).mono ?_
      rintro e w' ⟨rfl, hx⟩
      exact ⟨_, rfl, ⟨_, rfl, hs'.ext hx⟩, Src.same _ _, hx⟩
    · have hlen : 0 < L.length := List.length_pos_iff.2 h0
      have e2 : L.getD (L.length - 1) 0 = lastV L := by
        rw [lastV, List.getLastD_eq_getLast?, List.getLast?_eq_getElem?, List.getD_eq_getElem?_getD]
      have e3 : some' L = true := by rw [some', List.isEmpty_eq_false_iff.2 h0]; rfl
      have h := rlast_some w n (lastV L) g o (L.length - 1) c (by omega) (by omega) (e2 ▸ hc _ (by omega))
      rw [show L.length - 1 + 1 = L.length by omega] at h
      rw [e3]
      refine h.mono ?_
      rintro e w' ⟨rfl, hx⟩
      refine ⟨_, rfl, ⟨_, rfl, by simp; omega, .inr ⟨g, o, c, by simp, ⟨by simp; omega, Nat.lt_of_lt_of_le hl.2 hx.size⟩, fun j hj => ?_⟩⟩, Src.cut (fun g' o' c' l' he => by cases he; rfl), hx⟩
      simp at hj
      rw [hx.cell_some (hc j (by omega))]
      simp [List.getD_eq_getElem?_getD, List.getElem?_dropLast, hj, show j < L.length by omega]

theorem drop_ref (x : Int) (h : RefR w v n L) : Calls Try.prog 30 #[v, .int .i64 x] w (Rets n v (L.drop (dropN L x).toNat) [.int .i64 (dropN L x)] w) := by
  obtain ⟨s, rfl, hs⟩ := h
  have hs' := hs
  obtain ⟨hm, ⟨rfl, rfl⟩ | ⟨g, o, c, rfl, hl, hc⟩⟩ := hs
  · have e : dropN [] x = 0 := by unfold dropN; simp; omega
    rw [e]
    refine (rdrop_nil w n x).mono ?_
    rintro e w' ⟨rfl, hx⟩
    exact ⟨_, rfl, ⟨_, rfl, hs'.ext hx⟩, Src.same _ _, hx⟩
  · have fin : ∀ (d : Int) (s : Value) (M : List Int), (∀ g' o' c' l', s = .slice (some ⟨g', o', none⟩) l' c' → g' = g) → IntsV w s M → Calls Try.prog 30 #[.agg #[.int .i64 n, .slice (some ⟨g, o, none⟩) L.length c], .int .i64 x] w (DropPost n d s w) →
        Calls Try.prog 30 #[.agg #[.int .i64 n, .slice (some ⟨g, o, none⟩) L.length c], .int .i64 x] w (Rets n (.agg #[.int .i64 n, .slice (some ⟨g, o, none⟩) L.length c]) M [.int .i64 d] w) := by
      intro d s M hs hi h
      refine h.mono ?_
      rintro e w' ⟨rfl, hx⟩
      exact ⟨_, rfl, ⟨s, rfl, hi.ext hx⟩, Src.cut hs, hx⟩
    have hnil : IntsV w (.slice (some ⟨g, o, none⟩) 0 0) [] := ⟨by simp, .inr ⟨g, o, 0, rfl, ⟨by simp, hl.2⟩, fun j hj => by simp at hj⟩⟩
    by_cases h1 : x ≤ 0
    · have e : dropN L x = 0 := by unfold dropN; omega
      rw [e]
      exact fin _ _ _ (fun g' o' c' l' he => by cases he; rfl) (by simpa using hs') (rdrop_zero w n x g o _ c hm hl.1 h1)
    by_cases h0 : L.length = 0
    · have hL : L = [] := List.eq_nil_of_length_eq_zero h0
      subst hL
      have e : dropN [] x = 0 := by unfold dropN; simp; omega
      rw [e]
      exact fin _ _ _ (fun g' o' c' l' he => by cases he; rfl) hs' (rdrop_empty w n x g o _ c hm hl.1 (by omega) rfl)
    by_cases h2 : x ≤ L.length
    · obtain ⟨d, rfl⟩ : ∃ d : Nat, x = d := ⟨x.toNat, by omega⟩
      have e : dropN L d = d := by unfold dropN; omega
      rw [e, Int.toNat_natCast]
      by_cases hcd : c = d
      · have hd : d = L.length := by omega
        subst hd
        rw [List.drop_length]
        exact fin _ _ _ (fun g' o' c' l' he => by cases he; rfl) hnil (rdrop_midc w n g o _ c hm hl.1 (by omega) hcd)
      · exact fin _ _ _ (fun g' o' c' l' he => by cases he; rfl) (hs'.sub d (by omega)) (rdrop_mid w n g o _ c hm hl.1 d (by omega) (by omega) hcd)
    · have e : dropN L x = L.length := by unfold dropN; omega
      rw [e, Int.toNat_natCast, List.drop_length]
      by_cases hcd : c = L.length
      · exact fin _ _ _ (fun g' o' c' l' he => by cases he; rfl) hnil (rdrop_allc w n x g o _ c hm hl.1 (by omega) (by omega) hcd)
      · have := hs'.sub L.length (by omega)
        rw [List.drop_length, Nat.sub_self] at this
        exact fin _ _ _ (fun g' o' c' l' he => by cases he; rfl) this (rdrop_all w n x g o _ c hm hl.1 (by omega) (by omega) hcd)

theorem at_ref (i : Int) (h : RefR w v n L) : Calls Try.prog 19 #[v, .int .i64 i] w fun e w' => e = .returned (.tuple #[.int .i64 (atV L i), .bool (inB L i)]) ∧ Ext w w' := by
  obtain ⟨s, rfl, hs⟩ := h
  obtain ⟨a, m, c, rfl⟩ : ∃ a m c, s = .slice a m c := by
    obtain ⟨_, ⟨rfl, _⟩ | ⟨g, o, c, rfl, _⟩⟩ := hs <;> exact ⟨_, _, _, rfl⟩
  obtain ⟨hm, hA⟩ := hs.cells
  have h6 := hs.1
  by_cases hi : 0 ≤ i ∧ i < L.length
  · have e1 : inB L i = true := by simp [inB, hi]
    obtain ⟨k, rfl⟩ : ∃ k : Nat, i = k := ⟨i.toNat, by omega⟩
    obtain ⟨g, o, z, rfl, hz, hg, hc⟩ := hA.get (show k < L.length by omega)
    have e2 : atV L k = z := by rw [atV, if_pos e1, ← hz]; simp [List.getD_eq_getElem?_getD, show k < L.length by omega]
    rw [e1, e2]
    exact rat_in w n g o m c k z (by omega) (by omega) hc
  · have e1 : inB L i = false := by simp [inB]; omega
    rw [atV, e1, if_neg (by simp)]
    exact rat_out w n i a m c (by omega)

theorem find_ref (x : Int) (h : RefR w v n L) : Calls Try.prog 23 #[v, .int .i64 x] w fun e w' => e = .returned (.int .i64 (fnd L x)) ∧ Ext w w' := by
  obtain ⟨s, rfl, hs⟩ := h
  obtain ⟨a, m, c, rfl⟩ : ∃ a m c, s = .slice a m c := by
    obtain ⟨_, ⟨rfl, _⟩ | ⟨g, o, c, rfl, _⟩⟩ := hs <;> exact ⟨_, _, _, rfl⟩
  obtain ⟨hm, hA⟩ := hs.cells
  have h6 := hs.1
  exact rfind_any w n x a m c L hm (by omega) (Lib.hid hA)

end Go.Proofs.Ytdkblgbmbjagfaa
