/- Plain laws on states: what is taken, given back, and fits. -/
import Derived.Test.YtnldfglgdchinaaJ
namespace Go.Proofs.Ytnldfglgdchinaa
set_option linter.unusedSimpArgs false
set_option linter.unusedVariables false
open Go.RowKit

theorem six_cases {k : Int} (h : inB k 0 5 = true) : k = 0 ∨ k = 1 ∨ k = 2 ∨ k = 3 ∨ k = 4 ∨ k = 5 := by
  simp [inB] at h
  omega

/-- A state that may be, in numbers. -/
theorem good_parts {s : S} (h : s.check = 0) : (0 ≤ s.a0 ∧ 0 ≤ s.a1 ∧ 0 ≤ s.a2 ∧ 0 ≤ s.a3 ∧ 0 ≤ s.a4 ∧ 0 ≤ s.a5) ∧ 1 ≤ s.c ∧ s.c ≤ 4096 ∧ s.a0 * 8 + s.a1 * 6 + s.a2 * 4 + s.a3 * 3 + s.a4 * 2 + s.a5 ≤ s.c := by
  obtain ⟨⟨h0, h1, h2, h3, h4, h5⟩, hc, hs⟩ := check_zero s h
  simp only [S.okCap, okN, S.sum, psum] at *
  omega

theorem sum_eq (s : S) : s.sum = s.a0 * 8 + s.a1 * 6 + s.a2 * 4 + s.a3 * 3 + s.a4 * 2 + s.a5 := by
  simp only [S.sum, psum]
  omega

theorem good_of {s : S} (h : 0 ≤ s.a0 ∧ 0 ≤ s.a1 ∧ 0 ≤ s.a2 ∧ 0 ≤ s.a3 ∧ 0 ≤ s.a4 ∧ 0 ≤ s.a5) (hc : 1 ≤ s.c ∧ s.c ≤ 4096) (hs : s.a0 * 8 + s.a1 * 6 + s.a2 * 4 + s.a3 * 3 + s.a4 * 2 + s.a5 ≤ s.c) : s.check = 0 := by
  refine check_ok s ?_ hc (by rw [sum_eq]; exact hs)
  simp only [S.okMany, okN]
  omega

theorem give_law (s : S) (k n : Int) (h : s.check = 0) (hk : inB k 0 5 = true) (hn : 0 ≤ n) :
    s.gives k n = decide (n ≤ s.get k) ∧ (n ≤ s.get k → s.give k n = s.add k (-n) ∧ (s.add k (-n)).check = 0) ∧ (¬ n ≤ s.get k → s.give k n = s) := by
  have hg : s.gives k n = decide (n ≤ s.get k) := by unfold S.gives; rw [hk, h]; simp [hn]
  refine ⟨hg, fun hle => ⟨?_, ?_⟩, fun hle => ?_⟩
  · unfold S.give; rw [hg]; simp [hle]
  · obtain ⟨h0, hc1, hc2, hs⟩ := good_parts h
    obtain ⟨c, a0, a1, a2, a3, a4, a5⟩ := s
    rcases six_cases hk with rfl | rfl | rfl | rfl | rfl | rfl <;> simp [S.get] at hle h0 hc1 hc2 hs <;>
      exact good_of (by simp [S.add]; omega) ⟨hc1, hc2⟩ (by simp [S.add]; omega)
  · unfold S.give; rw [hg]; simp [hle]

theorem left_eq {s : S} (h : s.check = 0) : s.left = s.c - s.sum := by unfold S.left; rw [if_pos h]
theorem total_eq {s : S} (h : s.check = 0) : s.total = s.sum := by unfold S.total; rw [if_pos h]

theorem quo_iff {f q n : Int} (hq : 1 ≤ q) (hf : 0 ≤ f) : n ≤ Int.tdiv f q ↔ n * q ≤ f := by
  rw [Int.tdiv_eq_ediv_of_nonneg hf]
  exact Int.le_ediv_iff_mul_le (by omega)

theorem take_law (s : S) (k n : Int) (h : s.check = 0) (hk : inB k 0 5 = true) (hn : 0 ≤ n) :
    s.takes k n = decide (s.sum + n * costI k ≤ s.c) ∧ (s.sum + n * costI k ≤ s.c → s.take k n = s.add k n ∧ (s.add k n).check = 0) ∧ (¬ s.sum + n * costI k ≤ s.c → s.take k n = s) := by
  have hcp := cost_pos hk
  have hl := left_bounds s
  have he := left_eq h
  have hg : s.takes k n = decide (s.sum + n * costI k ≤ s.c) := by
    unfold S.takes
    rw [hk, h]
    have : n ≤ s.fits k n ↔ s.sum + n * costI k ≤ s.c := by
      unfold S.fits
      rw [if_pos hk]
      have hq := quo_iff (n := n) hcp.1 hl.1
      have : 0 ≤ Int.tdiv s.left (costI k) := (left_quo s k hk).1
      constructor
      · intro h1
        have := hq.1 (by omega)
        omega
      · intro h1
        have := hq.2 (by omega)
        omega
    simp [hn, this]
  refine ⟨hg, fun hle => ⟨?_, ?_⟩, fun hle => ?_⟩
  · unfold S.take; rw [hg]; simp [hle]
  · obtain ⟨h0, hc1, hc2, hs⟩ := good_parts h
    rw [sum_eq] at hle
    obtain ⟨c, a0, a1, a2, a3, a4, a5⟩ := s
    rcases six_cases hk with rfl | rfl | rfl | rfl | rfl | rfl <;> simp [costI] at hle h0 hc1 hc2 hs <;>
      exact good_of (by simp [S.add]; omega) ⟨hc1, hc2⟩ (by simp [S.add]; omega)
  · unfold S.take; rw [hg]; simp [hle]

theorem load_law (s : S) (h : s.check = 0) : 0 ≤ s.load ∧ s.load ≤ 100 := by
  obtain ⟨h0, hc1, hc2, hs⟩ := good_parts h
  unfold S.load
  rw [if_pos h]
  have hn : 0 ≤ s.sum * 100 := by rw [sum_eq]; omega
  rw [Int.tdiv_eq_ediv_of_nonneg hn]
  refine ⟨Int.ediv_nonneg hn (by omega), ?_⟩
  refine Int.ediv_le_of_le_mul (by omega) ?_
  rw [sum_eq]
  omega

theorem fits_law (s : S) (k : Int) (h : s.check = 0) (hk : inB k 0 5 = true) :
    0 ≤ s.fits k 4096 ∧ s.fits k 4096 ≤ 4096 ∧ s.takes k (s.fits k 4096) = true ∧ s.takes k (s.fits k 4096 + 1) = false ∧ S.gives (s.take k (s.fits k 4096)) k (s.fits k 4096) = true ∧
    S.give (s.take k (s.fits k 4096)) k (s.fits k 4096) = s ∧ S.fits (s.take k (s.fits k 4096)) k 1 = 0 ∧ S.left (s.take k (s.fits k 4096)) < costI k := by
  have hcp := cost_pos hk
  have hl := left_bounds s
  have he := left_eq h
  have hq := left_quo s k hk
  obtain ⟨f, hf⟩ : ∃ f, f = Int.tdiv s.left (costI k) := ⟨_, rfl⟩
  have hfit : s.fits k 4096 = f := by
    unfold S.fits
    rw [if_pos hk, ← hf]
    omega
  rw [hfit]
  rw [← hf] at hq
  have h1 : f * costI k ≤ s.left := (quo_iff hcp.1 hl.1).1 (by omega)
  have h2 : ¬ (f + 1) * costI k ≤ s.left := fun x => by have := (quo_iff hcp.1 hl.1).2 x; omega
  have hm : (f + 1) * costI k = f * costI k + costI k := by rw [Int.add_mul, Int.one_mul]
  obtain ⟨t1, t2, _⟩ := take_law s k f h hk hq.1
  obtain ⟨t3, _⟩ := take_law s k (f + 1) h hk (by omega)
  have hle : s.sum + f * costI k ≤ s.c := by omega
  obtain ⟨hta, hck⟩ := t2 hle
  rw [hta]
  obtain ⟨g1, g2, _⟩ := give_law (s.add k f) k f hck hk hq.1
  have hget : (s.add k f).get k = s.get k + f := by rcases six_cases hk with rfl | rfl | rfl | rfl | rfl | rfl <;> simp [S.get, S.add]
  have hget0 : 0 ≤ s.get k := by
    obtain ⟨h0, _⟩ := good_parts h
    rcases six_cases hk with rfl | rfl | rfl | rfl | rfl | rfl <;> simp [S.get] <;> omega
  have hgl : f ≤ (s.add k f).get k := by omega
  have hback : (s.add k f).add k (-f) = s := by
    obtain ⟨c, a0, a1, a2, a3, a4, a5⟩ := s
    rcases six_cases hk with rfl | rfl | rfl | rfl | rfl | rfl <;> simp [S.add] <;> omega
  have hsum : (s.add k f).sum = s.sum + f * costI k := by
    rw [sum_eq, sum_eq]
    rcases six_cases hk with rfl | rfl | rfl | rfl | rfl | rfl <;> simp [S.add, costI] <;> omega
  have hlx : (s.add k f).left = s.left - f * costI k := by rw [left_eq hck, hsum, he]; show s.c - _ = _; omega
  refine ⟨hq.1, by omega, by rw [t1]; simp [hle], by rw [t3]; simp; omega, by rw [g1]; simp [hgl], by rw [(g2 hgl).1, hback], ?_, by omega⟩
  unfold S.fits
  rw [if_pos hk, Int.tdiv_eq_ediv_of_nonneg (by omega), Int.ediv_eq_zero_of_lt (by omega) (by omega)]
  rfl

end Go.Proofs.Ytnldfglgdchinaa
