/- A text is laid. -/
import Derived.Test.YtfkfnhehbhebeaaI
import Derived.Lib.AppendStr
import Derived.Laws.OwnMore
namespace Go.Proofs.Ytfkfnhehbhebeaa
set_option linter.unusedSimpArgs false
set_option linter.unusedVariables false
open Go.RowKit

/-- Bytes as cells. -/
def bC (l : List UInt8) : List Value := l.map fun b => Value.int .u8 b.toNat

theorem bC_length (l : List UInt8) : (bC l).length = l.length := by simp [bC]
theorem bC_append (a b : List UInt8) : bC (a ++ b) = bC a ++ bC b := by simp [bC]

theorem own_bytes {w : World} {base : Nat} {v : Value} {l : List UInt8} (h : w.ownsRow base 5 1 v l.length (bC l)) : BytesAt w v l := by
  have h' := h
  obtain ⟨_, h | ⟨g, cap, cur, hv, _, hb, hn, hm, hs, ht⟩⟩ := h
  · obtain ⟨rfl, h0⟩ := h
    exact .inl ⟨List.eq_nil_of_length_eq_zero h0, rfl⟩
  · refine .inr ⟨g, cap, hv, fun j hj => ?_⟩
    rw [World.ownsRow.cellAt (hv ▸ h') j (by omega)]
    simp [bC, hj]

def sayE (s : ByteArray) (m : Int) : Int := if min m 255 < s.size then 5 else 0
def sayL (s : ByteArray) (m : Int) : List UInt8 := if sayE s m = 0 then UInt8.ofNat s.size :: s.data.toList else []

theorem size_list (s : ByteArray) : s.data.toList.length = s.size := by rw [Array.length_toList]; rfl

set_option maxRecDepth 100000 in
set_option maxHeartbeats 8000000 in
theorem say_any (w : World) (s : ByteArray) (m : Int) (hs : s.size ≤ 1000000) : Calls Try.prog 26 #[.string s, .int .i64 m] w fun e w' => ∃ v, e = .returned (.tuple #[v, .int .i64 (sayE s m)]) ∧ BytesAt w' v (sayL s m) ∧ Ext w w' := by
  by_cases hm : min m 255 < s.size
  case' pos =>
    have HE := Lib.hid (show sayE s m = 5 from if_pos hm)
    by_cases h255 : (255 : Int) < m
    case' pos => have h256 : (255 : Int) < s.size := by omega
    case' neg => have h256 : m < s.size := by omega
    all_goals
      clear hm
      go_enter Try.func26, Try.ntmps26
      go_wp2_with fail
      refine bodyPost_ret (v := .tuple #[.slice none 0 0, .int .i64 5]) (by simp [results, Try.results26, go_sem]) rfl ⟨_, by rw [HE.out], .inl ⟨if_neg (by rw [HE.out]; decide), rfl⟩, Ext.refl _⟩
  case' neg =>
    obtain ⟨i0, hi, hz0, hz1, hz2⟩ := info_parts info5
    have HE := Lib.hid (show sayE s m = 0 from if_neg hm)
    have hsz : s.size ≤ 255 := by omega
    have hw8 : IntKind.u8.wrap (s.size : Int) = s.size := by rw [IntKind.wrap_u8]; omega
    by_cases h255 : (255 : Int) < m
    case' pos => have h256 : ¬ (255 : Int) < s.size := by omega
    case' neg => have h256 : ¬ m < s.size := by omega
    all_goals
      go_enter Try.func26, Try.ntmps26
      go_wp2_with (at_builtin; refine Lib.wpList_append_own_string _ rfl _ _ 46 9 rfl w.heap.size 5 i0 Try.underlying46 Try.underlying9 hi hz0 hz1 hz2 _ 1 [.int .u8 s.size] rfl (World.ownsRow_lit w _ 1 (Nat.le_refl _) (by decide) rfl) s rfl ?c1 ?c2 ?c3 ?_)
      case c1 => unfold maxLen; omega
      case c2 => omega
      intro v' w' hown hgrow _
      have x0 : Ext w w' := Below.grown (Ext.alloc w _) hgrow (by simp) (fun q hq => by simp [Value.ownBlock] at hq; omega)
      have hl : sayL s m = UInt8.ofNat s.size :: s.data.toList := if_pos HE.out
      have hb : BytesAt w' v' (sayL s m) := by
        refine own_bytes (base := w.heap.size) ?_
        rw [hl]
        have e1 : (UInt8.ofNat s.size :: s.data.toList).length = 1 + s.size := by simp [size_list]; omega
        have e2 : bC (UInt8.ofNat s.size :: s.data.toList) = [Value.int .u8 s.size] ++ Lib.strCells s := by
          simp [bC, Lib.strCells]
          omega
        rw [e1, e2]
        exact hown
      clear hown hgrow
      go_wp2_with fail
      refine bodyPost_ret (v := .tuple #[v', .int .i64 0]) (by simp [results, Try.results26, go_sem]) rfl ⟨_, by rw [HE.out], hb, x0⟩

end Go.Proofs.Ytfkfnhehbhebeaa
