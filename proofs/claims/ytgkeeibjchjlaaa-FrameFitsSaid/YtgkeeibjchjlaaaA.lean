/- Bytes that are read. -/
import Derived.Test.YtgkeeibjchjlaaaBase
import Derived.Laws.IdiomStrings
namespace Go.Proofs.Ytgkeeibjchjlaaa
set_option linter.unusedSimpArgs false
set_option linter.unusedVariables false
open Go.RowKit




abbrev rdV (s : ByteArray) (p b : Int) : Value := .agg #[.string s, .int .i64 p, .int .i64 b]


def faultI (s : ByteArray) (p b : Int) : Int := if b = 0 ∧ (p < 0 ∨ (s.size : Int) < p) then 2 else b

def wideB (n : Int) : Bool := n == 1 || n == 2 || n == 4 || n == 6

def leftI (s : ByteArray) (p b : Int) : Int := if faultI s p b = 0 then s.size - p else 0

def doneI (s : ByteArray) (p b : Int) : Int := if faultI s p b = 0 ∧ p < s.size then 4 else faultI s p b


theorem fault_zero {s : ByteArray} {p b : Int} (h : faultI s p b = 0) : b = 0 ∧ 0 ≤ p ∧ p ≤ s.size := by
  unfold faultI at h
  split at h
  · simp at h
  · omega


theorem left_ok {s : ByteArray} {p b : Int} (h : faultI s p b = 0) : leftI s p b = s.size - p := if_pos h

theorem left_no {s : ByteArray} {p b : Int} (h : ¬ faultI s p b = 0) : leftI s p b = 0 := if_neg h


theorem fault_any (w : World) (s : ByteArray) (p b : Int) : Calls Try.prog 30 #[rdV s p b] w fun e w' => e = .returned (.int .i64 (faultI s p b)) ∧ Ext w w' := by
  by_cases hb : b = 0
  · subst hb
    by_cases h1 : p < 0
    · have e : faultI s p 0 = 2 := by unfold faultI; simp [h1]
      rw [e]
      go_enter Try.func30, Try.ntmps30
      go_wp2_with fail
      go_ret
      exact ⟨rfl, Ext.alloc _ _⟩
    · by_cases h2 : (s.size : Int) < p
      · have e : faultI s p 0 = 2 := by unfold faultI; simp [h2]
        rw [e]
        go_enter Try.func30, Try.ntmps30
        go_wp2_with fail
        go_ret
        exact ⟨rfl, Ext.alloc _ _⟩
      · have e : faultI s p 0 = 0 := by unfold faultI; simp [h1, h2]
        rw [e]
        go_enter Try.func30, Try.ntmps30
        go_wp2_with fail
        go_ret
        exact ⟨rfl, Ext.alloc _ _⟩
  · have e : faultI s p b = b := by unfold faultI; simp [hb]
    rw [e]
    go_enter Try.func30, Try.ntmps30
    go_wp2_with fail
    go_ret
    exact ⟨rfl, Ext.alloc _ _⟩


theorem fail_any (w : World) (s : ByteArray) (p b e : Int) : Calls Try.prog 31 #[rdV s p b, .int .i64 e] w fun x w' => x = .returned (rdV s p e) ∧ Ext w w' := by
  go_enter Try.func31, Try.ntmps31
  go_wp2_with fail
  refine bodyPost_ret (v := rdV s p e) (by simp [results, Try.results31, go_sem]) rfl ⟨rfl, (Ext.alloc _ _).al _⟩


theorem wide_any (w : World) (n : Int) : Calls Try.prog 32 #[.int .i64 n] w fun e w' => e = .returned (.bool (wideB n)) ∧ w' = w := by
  by_cases h1 : n = 1
  · subst h1
    go_enter Try.func32, Try.ntmps32
    go_wp2_with fail
    go_ret
    exact ⟨rfl, rfl⟩
  by_cases h2 : n = 2
  · subst h2
    go_enter Try.func32, Try.ntmps32
    go_wp2_with fail
    go_ret
    exact ⟨rfl, rfl⟩
  by_cases h4 : n = 4
  · subst h4
    go_enter Try.func32, Try.ntmps32
    go_wp2_with fail
    go_ret
    exact ⟨rfl, rfl⟩
  by_cases h6 : n = 6
  · subst h6
    go_enter Try.func32, Try.ntmps32
    go_wp2_with fail
    go_ret
    exact ⟨rfl, rfl⟩
  have e : wideB n = false := by simp [wideB, h1, h2, h4, h6]
  rw [e]
  go_enter Try.func32, Try.ntmps32
  go_wp2_with fail
  go_ret
  exact ⟨rfl, rfl⟩


theorem left_any (w : World) (s : ByteArray) (p b : Int) (hs : s.size ≤ 1000000) : Calls Try.prog 25 #[rdV s p b] w fun e w' => e = .returned (.int .i64 (leftI s p b)) ∧ Ext w w' := by
  by_cases hf : faultI s p b = 0
  · rw [left_ok hf]
    obtain ⟨hb, h0, h1⟩ := fault_zero hf
    have HF := Lib.hid hf
    clear hf hb
    go_enter Try.func25, Try.ntmps25
    go_wp2_with fail
    refine (fault_any _ s p b).mono ?_
    rintro e w1 ⟨rfl, x1⟩
    rw [HF.out]
    have c0 : (w.alloc (.cells #[.string s, .int .i64 p, .int .i64 b] 49)).cell? ⟨w.heap.size, 0, none⟩ = some (.string s) := by simp
    have c1 : (w.alloc (.cells #[.string s, .int .i64 p, .int .i64 b] 49)).cell? ⟨w.heap.size, 1, none⟩ = some (.int .i64 p) := by simp
    have c0 := x1.cell_some c0
    have c1 := x1.cell_some c1
    have x1 := (Ext.alloc _ _).trans x1
    go_wp2_with fail
    go_ret
    exact ⟨rfl, x1⟩
  · rw [left_no hf]
    have hne : (faultI s p b != 0) = true := by simpa using hf
    go_enter Try.func25, Try.ntmps25
    go_wp2_with fail
    refine (fault_any _ s p b).mono ?_
    rintro e w1 ⟨rfl, x1⟩
    have hne' : (faultI s p b != 0) = true := hne
    have x1 := (Ext.alloc _ _).trans x1
    clear hf
    go_wp2_with fail
    go_ret
    exact ⟨rfl, x1⟩


theorem open_any (w : World) (s : ByteArray) : Calls Try.prog 24 #[.string s] w fun x w' => x = .returned (rdV s 0 0) ∧ Ext w w' := by
  go_enter Try.func24, Try.ntmps24
  go_wp2_with fail
  refine bodyPost_ret (v := rdV s 0 0) (by simp [results, Try.results24, go_sem]) rfl ⟨rfl, Ext.alloc _ _⟩





def byteI (s : ByteArray) (i : Nat) : Int := if h : i < s.size then ((s[i]'h).toNat : Int) else 0

def numN (s : ByteArray) (p : Nat) : Nat → Int
  | 0 => 0
  | j + 1 => 256 * numN s p j + byteI s (p + j)


theorem byte_bounds (s : ByteArray) (i : Nat) : 0 ≤ byteI s i ∧ byteI s i ≤ 255 := by
  unfold byteI
  split
  · have := (s[i]).toNat_lt
    omega
  · omega


theorem num_bounds (s : ByteArray) (p : Nat) : ∀ j, 0 ≤ numN s p j ∧ numN s p j < 256 ^ j
  | 0 => by simp [numN]
  | j + 1 => by
    have h := num_bounds s p j
    have hb := byte_bounds s (p + j)
    simp only [numN, Int.pow_succ]
    omega


/-- What a number's reading leaves: the place, the error, the number. -/
def numP (s : ByteArray) (p b w : Int) : Int := if faultI s p b = 0 ∧ wideB w = true ∧ w ≤ leftI s p b then p + w else p

def numE (s : ByteArray) (p b w : Int) : Int := if faultI s p b ≠ 0 then faultI s p b else if wideB w = false then 2 else if w ≤ leftI s p b then 0 else 3

def numI (s : ByteArray) (p b w : Int) : Int := if faultI s p b = 0 ∧ wideB w = true ∧ w ≤ leftI s p b then numN s p.toNat w.toNat else 0


theorem wide_bounds {w : Int} (h : wideB w = true) : 1 ≤ w ∧ w ≤ 6 := by
  simp [wideB] at h
  omega


/-- Block g holds a Read, and may be written. -/
def RBox (w : World) (g : Nat) (s : ByteArray) (p b : Int) : Prop := (w.cell? ⟨g, 0, none⟩ = some (.string s) ∧ w.cell? ⟨g, 1, none⟩ = some (.int .i64 p) ∧ w.cell? ⟨g, 2, none⟩ = some (.int .i64 b)) ∧
  (w.frozen? ⟨g, 0, none⟩ = false ∧ w.frozen? ⟨g, 1, none⟩ = false ∧ w.frozen? ⟨g, 2, none⟩ = false)

section

variable {w w' : World} {g : Nat} {s : ByteArray} {p b : Int}

theorem RBox.cells (h : RBox w g s p b) : w.cell? ⟨g, 0, none⟩ = some (.string s) ∧ w.cell? ⟨g, 1, none⟩ = some (.int .i64 p) ∧ w.cell? ⟨g, 2, none⟩ = some (.int .i64 b) := h.1

theorem RBox.free (h : RBox w g s p b) : w.frozen? ⟨g, 0, none⟩ = false ∧ w.frozen? ⟨g, 1, none⟩ = false ∧ w.frozen? ⟨g, 2, none⟩ = false := h.2

theorem RBox.ext (h : RBox w g s p b) (x : Ext w w') : RBox w' g s p b := by
  obtain ⟨⟨c0, c1, c2⟩, ⟨f0, f1, f2⟩⟩ := h
  exact ⟨⟨x.cell_some c0, x.cell_some c1, x.cell_some c2⟩, ⟨x.free (lt_of_cell c0) f0, x.free (lt_of_cell c1) f1, x.free (lt_of_cell c2) f2⟩⟩

theorem RBox.new (w : World) (T : TypeId) (s : ByteArray) (p b : Int) : RBox (w.alloc (.cells #[.string s, .int .i64 p, .int .i64 b] T)) w.heap.size s p b :=
  ⟨⟨by simp, by simp, by simp⟩, ⟨by go_simp, by go_simp, by go_simp⟩⟩

theorem RBox.seen (h : RBox w g s p b) (x : Gr none w w') : w'.cell? ⟨g, 0, none⟩ = some (.string s) ∧ w'.cell? ⟨g, 1, none⟩ = some (.int .i64 p) ∧ w'.cell? ⟨g, 2, none⟩ = some (.int .i64 b) := by
  obtain ⟨c0, c1, c2⟩ := h.cells
  exact ⟨x.cell_some c0 (by simp), x.cell_some c1 (by simp), x.cell_some c2 (by simp)⟩

theorem RBox.lt (h : RBox w g s p b) : g < w.heap.size := lt_of_cell h.1.1

end


@[go_sem] theorem bytes_of (w : World) (s : ByteArray) : (convert 9 45 (.string s)).run Try.prog w = .ok (.slice (some ⟨w.heap.size, 0, none⟩) s.size (grownCap w s.size 0 5))
      (w.drew.alloc (.cells (bytesRow s (grownCap w s.size 0 5)) 5 ((bytesRow s (grownCap w s.size 0 5)).size, (bytesRow s (grownCap w s.size 0 5)).size + 1))) :=
  run_bytes_of_string w 9 45 5 s Try.underlying9 Try.underlying45 Try.underlying5


theorem or_byte (n b : Int) (hn : 0 ≤ n) (hm : n < 18014398509481984) (h0 : 0 ≤ b) (h1 : b ≤ 255) : bits .or .i64 (wrap64 (n * 256)) b = 256 * n + b := by
  have hw : wrap64 (n * 256) = n * 256 := by unfold wrap64; omega
  rw [hw]
  obtain ⟨N, rfl⟩ : ∃ N : Nat, n = N := ⟨n.toNat, by omega⟩
  obtain ⟨B, rfl⟩ : ∃ B : Nat, b = B := ⟨b.toNat, by omega⟩
  have e1 : (BitVec.ofInt 64 ((N : Int) * 256)).toNat = N * 256 := by
    rw [show (N : Int) * 256 = ((N * 256 : Nat) : Int) by omega, BitVec.ofInt_natCast, BitVec.toNat_ofNat]; exact Nat.mod_eq_of_lt (by omega)
  have e2 : (BitVec.ofInt 64 (B : Int)).toNat = B := by
    rw [BitVec.ofInt_natCast, BitVec.toNat_ofNat]; exact Nat.mod_eq_of_lt (by omega)
  show IntKind.i64.wrap ((BitVec.ofInt 64 ((N : Int) * 256) ||| BitVec.ofInt 64 (B : Int)).toNat : Int) = _
  have e3 : N * 256 ||| B = N * 256 + B := by
    have := Nat.two_pow_add_eq_or_of_lt (i := 8) (b := B) (by omega) N
    rw [show (2 : Nat) ^ 8 = 256 from rfl] at this
    rw [Nat.mul_comm N 256, ← this]
  rw [BitVec.toNat_or, e1, e2, e3, IntKind.wrap_i64]
  omega


theorem bytes_cell (s : ByteArray) (w : World) (P K j c : Nat) (fr : Nat × Nat) (h : P + K ≤ s.size) (hj : j < K) :
    (w.alloc (.cells (bytesRow (s.extract P (P + K)) c) 5 fr)).cell? ⟨w.heap.size, j, none⟩ = some (.int .u8 (byteI s (P + j))) := by
  rw [World.cell?_alloc_mark, bytesRow_at _ _ _ (by simp; omega)]
  unfold byteI
  rw [dif_pos (by omega)]
  simp
  rfl


set_option maxRecDepth 100000 in
set_option maxHeartbeats 8000000 in
theorem num_any (w : World) (s : ByteArray) (p b k : Int) (hs : s.size ≤ 1000000) :
    Calls Try.prog 23 #[rdV s p b, .int .i64 k] w fun e w' => e = .returned (.tuple #[rdV s (numP s p b k) (numE s p b k), .int .i64 (numI s p b k)]) ∧ Ext w w' := by
  by_cases hf : faultI s p b = 0
  case' neg =>
    have hne : (faultI s p b != 0) = true := by simpa using hf
    have HN := Lib.hid (show numP s p b k = p ∧ numE s p b k = faultI s p b ∧ numI s p b k = 0 from ⟨if_neg (fun x => hf x.1), if_pos hf, if_neg (fun x => hf x.1)⟩)
    clear hf
    go_enter Try.func23, Try.ntmps23
    go_wp2_with fail
    obtain ⟨w0, hw0⟩ : ∃ w0, w0 = (w.alloc (.cells #[.string s, .int .i64 p, .int .i64 b] 49)).alloc (.cells #[.string { data := #[] }, .int .i64 0, .int .i64 0] 49) := ⟨_, rfl⟩
    rw [← hw0]
    have x0 : Ext w w0 := hw0 ▸ (Ext.alloc _ _).al _
    have B2 : Hid (RBox w0 w.heap.size s p b) := Lib.hid (hw0 ▸ (RBox.new w 49 s p b).ext (Ext.alloc _ _))
    have B4 : Hid (RBox w0 (w.heap.size + 1) { data := #[] } 0 0) := Lib.hid (hw0 ▸ by simpa using RBox.new (w.alloc (.cells #[.string s, .int .i64 p, .int .i64 b] 49)) 49 { data := #[] } 0 0)
    clear hw0
    refine (fault_any _ s p b).mono ?_
    rintro e w1 ⟨rfl, xx⟩
    have B2 := Lib.hid (B2.out.ext xx)
    have B4 := Lib.hid (B4.out.ext xx)
    have x0 := x0.trans xx
    clear xx
    obtain ⟨c0, c1, c2⟩ := B2.out.cells
    go_wp2_with fail
    refine (fail_any _ s p b _).mono ?_
    rintro e w2 ⟨rfl, xx⟩
    have B2 := Lib.hid (B2.out.ext xx)
    have B4 := Lib.hid (B4.out.ext xx)
    have x0 := x0.trans xx
    clear xx
    obtain ⟨c0, c1, c2⟩ := B2.out.cells
    obtain ⟨r0, r1, r2⟩ := B4.out.cells
    obtain ⟨f0, f1, f2⟩ := B4.out.free
    go_wp2_with fail
    refine bodyPost_ret (v := .tuple #[rdV s p (faultI s p b), .int .i64 0]) (by simp [results, Try.results23, go_sem, f0, f1, f2, r0, r1, r2]) rfl ⟨by rw [HN.out.1, HN.out.2.1, HN.out.2.2], ?_⟩
    repeat refine Ext.set ?_ (by omega) _
    exact x0
  case' pos =>
    have hp := fault_zero hf
    have hl := left_ok hf
    have HF := Lib.hid hf
    have hb := hp.1
    by_cases hw : wideB k = true
    case' neg =>
      have hwf : wideB k = false := by simpa using hw
      have HN := Lib.hid (show numP s p b k = p ∧ numE s p b k = 2 ∧ numI s p b k = 0 from ⟨if_neg (fun x => hw x.2.1), by unfold numE; rw [if_neg (by simp [hf]), if_pos hwf], if_neg (fun x => hw x.2.1)⟩)
      have HW := Lib.hid hwf
      clear hf hw hl hp hb hwf
      go_enter Try.func23, Try.ntmps23
      go_wp2_with fail
      obtain ⟨w0, hw0⟩ : ∃ w0, w0 = (w.alloc (.cells #[.string s, .int .i64 p, .int .i64 b] 49)).alloc (.cells #[.string { data := #[] }, .int .i64 0, .int .i64 0] 49) := ⟨_, rfl⟩
      rw [← hw0]
      have x0 : Ext w w0 := hw0 ▸ (Ext.alloc _ _).al _
      have B2 : Hid (RBox w0 w.heap.size s p b) := Lib.hid (hw0 ▸ (RBox.new w 49 s p b).ext (Ext.alloc _ _))
      have B4 : Hid (RBox w0 (w.heap.size + 1) { data := #[] } 0 0) := Lib.hid (hw0 ▸ by simpa using RBox.new (w.alloc (.cells #[.string s, .int .i64 p, .int .i64 b] 49)) 49 { data := #[] } 0 0)
      clear hw0
      refine (fault_any _ s p b).mono ?_
      rintro e w1 ⟨rfl, xx⟩
      have B2 := Lib.hid (B2.out.ext xx)
      have B4 := Lib.hid (B4.out.ext xx)
      have x0 := x0.trans xx
      clear xx
      rw [HF.out]
      obtain ⟨c0, c1, c2⟩ := B2.out.cells
      go_wp2_with fail
      refine (wide_any _ k).mono ?_
      rintro e w1 ⟨rfl, rfl⟩
      rw [HW.out]
      go_wp2_with fail
      refine (fail_any _ s p b 2).mono ?_
      rintro e w2 ⟨rfl, xx⟩
      have B2 := Lib.hid (B2.out.ext xx)
      have B4 := Lib.hid (B4.out.ext xx)
      have x0 := x0.trans xx
      clear xx
      obtain ⟨c0, c1, c2⟩ := B2.out.cells
      obtain ⟨r0, r1, r2⟩ := B4.out.cells
      obtain ⟨f0, f1, f2⟩ := B4.out.free
      go_wp2_with fail
      refine bodyPost_ret (v := .tuple #[rdV s p 2, .int .i64 0]) (by simp [results, Try.results23, go_sem, f0, f1, f2, r0, r1, r2]) rfl ⟨by rw [HN.out.1, HN.out.2.1, HN.out.2.2], ?_⟩
      repeat refine Ext.set ?_ (by omega) _
      exact x0
    case' pos =>
      have HW := Lib.hid hw
      by_cases hk : k ≤ leftI s p b
      case' neg =>
        have HN := Lib.hid (show numP s p b k = p ∧ numE s p b k = 3 ∧ numI s p b k = 0 from ⟨if_neg (fun x => hk x.2.2), by unfold numE; rw [if_neg (by simp [hf]), if_neg (by simp [hw]), if_neg hk], if_neg (fun x => hk x.2.2)⟩)
        have hlt : leftI s p b < k := by omega
        clear hf hw hl hp hb hk
        go_enter Try.func23, Try.ntmps23
        go_wp2_with fail
        obtain ⟨w0, hw0⟩ : ∃ w0, w0 = (w.alloc (.cells #[.string s, .int .i64 p, .int .i64 b] 49)).alloc (.cells #[.string { data := #[] }, .int .i64 0, .int .i64 0] 49) := ⟨_, rfl⟩
        rw [← hw0]
        have x0 : Ext w w0 := hw0 ▸ (Ext.alloc _ _).al _
        have B2 : Hid (RBox w0 w.heap.size s p b) := Lib.hid (hw0 ▸ (RBox.new w 49 s p b).ext (Ext.alloc _ _))
        have B4 : Hid (RBox w0 (w.heap.size + 1) { data := #[] } 0 0) := Lib.hid (hw0 ▸ by simpa using RBox.new (w.alloc (.cells #[.string s, .int .i64 p, .int .i64 b] 49)) 49 { data := #[] } 0 0)
        clear hw0
        refine (fault_any _ s p b).mono ?_
        rintro e w1 ⟨rfl, xx⟩
        have B2 := Lib.hid (B2.out.ext xx)
        have B4 := Lib.hid (B4.out.ext xx)
        have x0 := x0.trans xx
        clear xx
        rw [HF.out]
        obtain ⟨c0, c1, c2⟩ := B2.out.cells
        go_wp2_with fail
        refine (wide_any _ k).mono ?_
        rintro e w1 ⟨rfl, rfl⟩
        rw [HW.out]
        go_wp2_with fail
        refine (left_any _ s p b hs).mono ?_
        rintro e w3 ⟨rfl, xx⟩
        have B2 := Lib.hid (B2.out.ext xx)
        have B4 := Lib.hid (B4.out.ext xx)
        have x0 := x0.trans xx
        clear xx
        obtain ⟨c0, c1, c2⟩ := B2.out.cells
        go_wp2_with fail
        refine (fail_any _ s p b 3).mono ?_
        rintro e w2 ⟨rfl, xx⟩
        have B2 := Lib.hid (B2.out.ext xx)
        have B4 := Lib.hid (B4.out.ext xx)
        have x0 := x0.trans xx
        clear xx
        obtain ⟨c0, c1, c2⟩ := B2.out.cells
        obtain ⟨r0, r1, r2⟩ := B4.out.cells
        obtain ⟨f0, f1, f2⟩ := B4.out.free
        go_wp2_with fail
        refine bodyPost_ret (v := .tuple #[rdV s p 3, .int .i64 0]) (by simp [results, Try.results23, go_sem, f0, f1, f2, r0, r1, r2]) rfl ⟨by rw [HN.out.1, HN.out.2.1, HN.out.2.2], ?_⟩
        repeat refine Ext.set ?_ (by omega) _
        exact x0
      case' pos =>
        have HN := Lib.hid (show numP s p b k = p + k ∧ numE s p b k = 0 ∧ numI s p b k = numN s p.toNat k.toNat from ⟨if_pos ⟨hf, hw, hk⟩, by unfold numE; rw [if_neg (by simp [hf]), if_neg (by simp [hw]), if_pos hk], if_pos ⟨hf, hw, hk⟩⟩)
        have hwb := wide_bounds hw
        obtain ⟨P, rfl⟩ : ∃ P : Nat, p = P := ⟨p.toNat, by omega⟩
        obtain ⟨K, rfl⟩ : ∃ K : Nat, k = K := ⟨k.toNat, by omega⟩
        subst hb
        have hK : K ≤ 6 := by omega
        have hPK : P + K ≤ s.size := by omega
        have hlt : ¬ leftI s P 0 < K := by omega
        have HK := Lib.hid (And.intro hK hPK)
        clear hf hw hl hp hk hwb hPK hK
        go_enter Try.func23, Try.ntmps23
        go_wp2_with fail
        obtain ⟨w0, hw0⟩ : ∃ w0, w0 = (w.alloc (.cells #[.string s, .int .i64 P, .int .i64 0] 49)).alloc (.cells #[.string { data := #[] }, .int .i64 0, .int .i64 0] 49) := ⟨_, rfl⟩
        rw [← hw0]
        have x0 : Ext w w0 := hw0 ▸ (Ext.alloc _ _).al _
        have B2 : Hid (RBox w0 w.heap.size s P 0) := Lib.hid (hw0 ▸ (RBox.new w 49 s P 0).ext (Ext.alloc _ _))
        have B4 : Hid (RBox w0 (w.heap.size + 1) { data := #[] } 0 0) := Lib.hid (hw0 ▸ by simpa using RBox.new (w.alloc (.cells #[.string s, .int .i64 P, .int .i64 0] 49)) 49 { data := #[] } 0 0)
        clear hw0
        refine (fault_any _ s P 0).mono ?_
        rintro e w1 ⟨rfl, xx⟩
        have B2 := Lib.hid (B2.out.ext xx)
        have B4 := Lib.hid (B4.out.ext xx)
        have x0 := x0.trans xx
        clear xx
        rw [HF.out]
        obtain ⟨c0, c1, c2⟩ := B2.out.cells
        go_wp2_with fail
        refine (wide_any _ K).mono ?_
        rintro e w1 ⟨rfl, rfl⟩
        rw [HW.out]
        go_wp2_with fail
        refine (left_any _ s P 0 hs).mono ?_
        rintro e w3 ⟨rfl, xx⟩
        have B2 := Lib.hid (B2.out.ext xx)
        have B4 := Lib.hid (B4.out.ext xx)
        have x0 := x0.trans xx
        clear xx
        obtain ⟨c0, c1, c2⟩ := B2.out.cells
        have hj1 : (P : Int) + K ≤ s.size := by have := HK.out; omega
        have hj2 : IntKind.i64.wrap ((P : Int) + K) = (P : Int) + K := IntWalk.i64_in _ (by have := HK.out; omega)
        go_wp2_with fail
        have hmin : min (P + K) s.size - P = K := by have := HK.out; omega
        simp only [hmin]
        obtain ⟨C, hC⟩ : ∃ C, C = bytesRow (s.extract P (P + K)) (grownCap w3 K 0 5) := ⟨_, rfl⟩
        rw [← hC]
        obtain ⟨w5, hw5⟩ : ∃ v, v = (w3.alloc (.cells C 5 (C.size, C.size + 1))).drew := ⟨_, rfl⟩
        rw [← hw5]
        have x5 : Ext w3 w5 := by rw [hw5]; exact (Ext.alloc w3 _).dr
        have hcs : ∀ j, j < K → w5.cell? ⟨w3.heap.size, j, none⟩ = some (.int .u8 (byteI s (P + j))) := by
          intro j hj
          rw [hw5, hC]
          exact bytes_cell s w3 P K j _ _ HK.out.2 hj
        have HC := Lib.hid hcs
        clear hcs hw5 hC c0 c1 c2 hlt hj1 hj2
        go_loopw [7, 9, 39] (fun n b i wr => ∃ j : Nat, n = .int .i64 (numN s P j) ∧ i = .int .i64 j ∧ j ≤ K ∧ Ext w5 wr) (fun _ _ i _ => K - (intOf i).toNat)
        case atStart => exact ⟨0, rfl, rfl, by omega, Ext.refl _⟩
        case round =>
          obtain ⟨j, rfl, rfl, hj, hx⟩ := hrel
          by_cases hlt : j < K
          · have cj := hx.cell_some (HC.out j hlt)
            have hlt2 : (j : Int) < K := by omega
            have hb := byte_bounds s (P + j)
            have hn := num_bounds s P j
            have hp6 : (256 : Int) ^ j ≤ 256 ^ 5 := by
              have h5 : j ≤ 5 := by have := HK.out; omega
              rcases (by omega : j = 0 ∨ j = 1 ∨ j = 2 ∨ j = 3 ∨ j = 4 ∨ j = 5) with rfl | rfl | rfl | rfl | rfl | rfl <;> decide
            have hor := or_byte (numN s P j) (byteI s (P + j)) hn.1 (by omega) hb.1 hb.2
            have HO := Lib.hid hor
            clear hor hp6 hn
            go_wp2_with fail
            refine ⟨⟨j + 1, ?_, rfl, by omega, hx⟩, by simp [intOf]; omega⟩
            rw [HO.out]
            rfl
          · have hlt2 : ¬ (j : Int) < K := by omega
            have hje : j = K := by omega
            have HJ := Lib.hid hje
            have B2 := Lib.hid (B2.out.ext (x5.trans hx))
            have B4 := Lib.hid (B4.out.ext (x5.trans hx))
            have x0 := x0.trans (x5.trans hx)
            clear hje
            have hj2 : IntKind.i64.wrap ((P : Int) + K) = (P : Int) + K := IntWalk.i64_in _ (by have := HK.out; omega)
            obtain ⟨c0, c1, c2⟩ := B2.out.cells
            obtain ⟨g0, g1, g2⟩ := B2.out.free
            obtain ⟨r0, r1, r2⟩ := B4.out.cells
            obtain ⟨f0, f1, f2⟩ := B4.out.free
            go_wp2_with fail
            refine bodyPost_ret (v := .tuple #[rdV s (P + K) 0, .int .i64 (numN s P j)]) (by simp [results, Try.results23, go_sem, r0, r1, r2, f0, f1, f2, c0, c1, c2]) rfl ⟨by rw [HN.out.1, HN.out.2.1, HN.out.2.2, HJ.out]; rfl, ?_⟩
            repeat refine Ext.set ?_ (by omega) _
            exact x0


end Go.Proofs.Ytgkeeibjchjlaaa
