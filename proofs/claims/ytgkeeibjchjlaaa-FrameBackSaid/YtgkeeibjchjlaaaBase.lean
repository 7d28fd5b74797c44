/- Small laws on worlds and on regions, used by all walks. -/
import Derived.Test.YtgkeeibjchjlaaaRows
import Derived.Test.YtgkeeibjchjlaaaFlow
import Derived.WalkKit
import Derived.WalkSpells
import Derived.WalkLawsBesides
import Derived.Deep.QuietTactic
import Derived.BigQuiet
import Derived.StillTailTactics
import Derived.BigRegion
import Derived.Lib.Hide
namespace Go.Proofs.Ytgkeeibjchjlaaa
set_option linter.unusedSimpArgs false
set_option linter.unusedVariables false
open Go.RowKit

theorem region_tail {P : Program} {id : Nat} {Q : Exit → Act → World → Prop} {a : Act} {w : World} {l : List Oper} (n : Nat) (hm : P.follows .mixedOrders = true) (hB : Region.lexTailB .any l.toArray n = true)
    (h : wpStill P l.toArray w.drew (fun a' => wpList P l.toArray Q (l.drop n) a' w.drew) (l.take n) a) : (Code.region id l.toArray true).wp P Q a w :=
  wp_region_still_tail n hm hB h

theorem region_still {P : Program} {id : Nat} {Q : Exit → Act → World → Prop} {a : Act} {w : World} {l : List Oper} (hm : P.follows .mixedOrders = true) (hB : Region.lexB .any l.toArray = true)
    (h : wpStill P l.toArray w.drew (fun a' => Q .normal a' w.drew) l a) : (Code.region id l.toArray true).wp P Q a w :=
  wp_region_still_lit hm hB h

theorem lt_of_cell {w : World} {a : Addr} {v : Value} (h : w.cell? a = some v) : a.block < w.heap.size := World.block_lt_of_cell? w a h

theorem Ext.cell_some {w w' : World} (h : Ext w w') {a : Addr} {v : Value} (hc : w.cell? a = some v) : w'.cell? a = some v := (h.cell (lt_of_cell hc)).trans hc

theorem Ext.free {w w' : World} (h : Ext w w') {a : Addr} (ha : a.block < w.heap.size) (hc : w.frozen? a = false) : w'.frozen? a = false := (h.frozen ha).trans hc

theorem step_value {P : Program} {ops : Array Oper} {Q : Exit → Act → World → Prop} {a : Act} {w w' : World} {o : Oper} {rest : List Oper} {v : Value}
    (hg : o.guard = none) (h : (execOp a.eval o).run P w = .ok (.value v) w') (hn : wpList P ops Q rest (a.put o.dst v) w') : wpList P ops Q (o :: rest) a w := by
  refine wpList_plain hg (fun K hK => ?_)
  unfold Oper.wp
  rw [h]
  exact hK _ _ hn

section
variable {P : Program} {l tl : List Oper} {Q : Exit → Act → World → Prop} {W : World} {row : Option Nat} {a : Act} {w : World} {o : Oper} {r : List (Oper × Bool)}
theorem held_yesG (hg : Gr row W w) (v : Value) (hd : Region.wanted o (yielded l.toArray a.tmps) = true) (hv : ∀ w1, Gr row W w1 → o.quietAt P a (Eq w1) w1 v) (h : flow (Held W row) Eq P l Q tl r (a.put o.dst v) w) :
    flow (Held W row) Eq P l Q tl ((o, true) :: r) a w := flow_yesG v hd (fun w1 hw1 => hv w1 (hw1 hg)) h
theorem held_stepG (hd : Region.wanted o (yielded l.toArray a.tmps) = true) (h : ∀ K : Act → World → Prop, (∀ a' w', Gr row W w' → flow (Held W row) Eq P l Q tl r a' w' → K a' w') → o.wp P a w K Q) :
    flow (Held W row) Eq P l Q tl ((o, false) :: r) a w := by
  intro w1 hw1
  subst hw1
  simp only [hd, if_true]
  exact Oper.wp_mono (fun a' w' h' => ⟨fun _ => h'.1, h'.2⟩) (h (fun a' w' => Gr row W w' ∧ flow (Held W row) Eq P l Q tl r a' w') (fun a' w' h1 h2 => ⟨h1, h2⟩))
/-- An operation that its guard lets be. -/
theorem held_noG {q : Bool} (hd : Region.wanted o (yielded l.toArray a.tmps) = false) (h : flow (Held W row) Eq P l Q tl r (a.put o.dst undef) w) :
    flow (Held W row) Eq P l Q tl ((o, q) :: r) a w := flow_no hd rfl (fun w1 hw1 => hw1 ▸ h)
end

end Go.Proofs.Ytgkeeibjchjlaaa
