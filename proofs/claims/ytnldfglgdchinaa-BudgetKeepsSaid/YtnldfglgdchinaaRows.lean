/-
  No cell of these rows narrows 'for every input' (looked for: loops, veiled, ifaces, maps, wideKeys, modest, calm, conditions, laid).
  DERIVED. THE GIVEN ROWS OF THIS SEAT. 4 by the template 'for every input the law returns true; each argument reads behind the call as it read before'; 0 by the template 'total and deterministic' (their statements: YtnldfglgdchinaaTotals.lean).
  GIVEN WITH THE SEED: the statements are not yours to turn. If you find one false, say at which input.
  Laid BY PROGRAM, IN A SANDBOX (cutbox-rows.mjs): the forced cells as the released guide's own fill.sh prints them over the translation cd8b1d6491dddbda… (all of the seat's roots in one cut). By AI agents, Wed Nov 11 2026. No macro, syntax, notation, axiom, sorry.
-/
import Derived.Test.YtnldfglgdchinaaChecked
import GoSem.Claim
import GoSem.ClaimJoined
import GoSem.ClaimMapViews
import Derived.JoinedTies
import Derived.KernelRfl
namespace Go.Proofs.Ytnldfglgdchinaa
/- THE CELL 'sum', in the pinned program and in every row, IS THE sha256 OF THE DUMP (.gsa) THAT YtnldfglgdchinaaProg.lean LOADS. Nothing in Lean hashes anything: it is a label: what it is worth is what the hold of that sum in a sandbox is worth. -/
noncomputable def Try.pinned : Pinned := { name := "ytnldfglgdchinaa", sum := "cd8b1d6491dddbda842710d9089054a153299dd35984bb2bd79b1d9ef12b7cfc", checked := Try.checked }
namespace Rows
def none {H : Type} : Left H := { results := [], args := [] }

/-- 'callboylaw08.BudgetChanges': WHATEVER THE INPUT: true; the input reads as it did. -/
def budgetChangesSpec : ChangeSpec := { name := "budgetChanges", fn := fun _ => fun
  | [d1, d2, d3] => { results := [.lit (.bool true)], args := [d1, d2, d3] }
  | _ => none }
def budgetChangesRow : OpenClaim := { program := "ytnldfglgdchinaa", sum := "cd8b1d6491dddbda842710d9089054a153299dd35984bb2bd79b1d9ef12b7cfc", func := "callboy/callboylaw08.BudgetChanges", spec := "budgetChanges", apart := false }
def BudgetChangesSaid : Prop := budgetChangesRow.holds Try.pinned (OpenSpec.ofChange budgetChangesSpec)

/-- ITS FALSE NEIGHBOUR: 'it returns false'. Refute it at one input. -/
def budgetChangesWrong : ChangeSpec := { name := "budgetChanges", fn := fun _ => fun
  | [d1, d2, d3] => { results := [.lit (.bool false)], args := [d1, d2, d3] }
  | _ => none }
def BudgetChangesWrongFalsely : Prop := budgetChangesRow.holds Try.pinned (OpenSpec.ofChange budgetChangesWrong)

/-- 'callboylaw08.BudgetTells': WHATEVER THE INPUT: true; the input reads as it did. -/
def budgetTellsSpec : ChangeSpec := { name := "budgetTells", fn := fun _ => fun
  | [d1, d2] => { results := [.lit (.bool true)], args := [d1, d2] }
  | _ => none }
def budgetTellsRow : OpenClaim := { program := "ytnldfglgdchinaa", sum := "cd8b1d6491dddbda842710d9089054a153299dd35984bb2bd79b1d9ef12b7cfc", func := "callboy/callboylaw08.BudgetTells", spec := "budgetTells", apart := false }
def BudgetTellsSaid : Prop := budgetTellsRow.holds Try.pinned (OpenSpec.ofChange budgetTellsSpec)

/-- ITS FALSE NEIGHBOUR: 'it returns false'. Refute it at one input. -/
def budgetTellsWrong : ChangeSpec := { name := "budgetTells", fn := fun _ => fun
  | [d1, d2] => { results := [.lit (.bool false)], args := [d1, d2] }
  | _ => none }
def BudgetTellsWrongFalsely : Prop := budgetTellsRow.holds Try.pinned (OpenSpec.ofChange budgetTellsWrong)

/-- 'callboylaw08.BudgetKeeps': WHATEVER THE INPUT: true; the input reads as it did. -/
def budgetKeepsSpec : ChangeSpec := { name := "budgetKeeps", fn := fun _ => fun
  | [d1, d2] => { results := [.lit (.bool true)], args := [d1, d2] }
  | _ => none }
def budgetKeepsRow : OpenClaim := { program := "ytnldfglgdchinaa", sum := "cd8b1d6491dddbda842710d9089054a153299dd35984bb2bd79b1d9ef12b7cfc", func := "callboy/callboylaw08.BudgetKeeps", spec := "budgetKeeps", apart := false }
def BudgetKeepsSaid : Prop := budgetKeepsRow.holds Try.pinned (OpenSpec.ofChange budgetKeepsSpec)

/-- ITS FALSE NEIGHBOUR: 'it returns false'. Refute it at one input. -/
def budgetKeepsWrong : ChangeSpec := { name := "budgetKeeps", fn := fun _ => fun
  | [d1, d2] => { results := [.lit (.bool false)], args := [d1, d2] }
  | _ => none }
def BudgetKeepsWrongFalsely : Prop := budgetKeepsRow.holds Try.pinned (OpenSpec.ofChange budgetKeepsWrong)

/-- 'callboylaw08.BudgetBack': WHATEVER THE INPUT: true; the input reads as it did. -/
def budgetBackSpec : ChangeSpec := { name := "budgetBack", fn := fun _ => fun
  | [d1, d2, d3] => { results := [.lit (.bool true)], args := [d1, d2, d3] }
  | _ => none }
def budgetBackRow : OpenClaim := { program := "ytnldfglgdchinaa", sum := "cd8b1d6491dddbda842710d9089054a153299dd35984bb2bd79b1d9ef12b7cfc", func := "callboy/callboylaw08.BudgetBack", spec := "budgetBack", apart := false }
def BudgetBackSaid : Prop := budgetBackRow.holds Try.pinned (OpenSpec.ofChange budgetBackSpec)

/-- ITS FALSE NEIGHBOUR: 'it returns false'. Refute it at one input. -/
def budgetBackWrong : ChangeSpec := { name := "budgetBack", fn := fun _ => fun
  | [d1, d2, d3] => { results := [.lit (.bool false)], args := [d1, d2, d3] }
  | _ => none }
def BudgetBackWrongFalsely : Prop := budgetBackRow.holds Try.pinned (OpenSpec.ofChange budgetBackWrong)

/- THE SECOND FORM. 'bulk': how many values and letters a reading holds, each counted each time it is reached (what is shared counts as often as it is met; a slice's spare places count too). A statement '..UptoSaid' is the law's where the arguments, and the package variables that the reading takes, are together of bulk at most 1048576: NARROWER than '..Said'. Prove '..Said' where nothing that the law and all that it calls make is longer than what came in: it says more and counts as full. Else prove '..UptoSaid'. A law counts once. -/
mutual
def uptoBulk {H : Type} : DataW H → Nat
  | .lit (.string bytes) => bytes.length + 1
  | .lit _ => 1
  | .nil => 1
  | .ptr d => uptoBulk d + 1
  | .slice elems spare => uptoBulkAll elems + uptoBulkAll spare + 1
  | .agg parts => uptoBulkAll parts + 1
  | .iface _ d => uptoBulk d + 1
  | .map entries => uptoBulkEntries entries + 1
  | .held _ => 1
def uptoBulkAll {H : Type} : List (DataW H) → Nat
  | [] => 0
  | d :: r => uptoBulk d + uptoBulkAll r
def uptoBulkEntries {H : Type} : List (Lit × DataW H) → Nat
  | [] => 0
  | x :: r => uptoBulkEntry x + uptoBulkEntries r
def uptoBulkEntry {H : Type} : Lit × DataW H → Nat
  | (.string bytes, d) => bytes.length + uptoBulk d + 1
  | (_, d) => uptoBulk d + 1
 end
def uptoSmall : (H : Type) → List (DataW H) → Bool := fun _ ds => decide (uptoBulkAll ds ≤ 1048576)
def OpenSpec.upto (s : _root_.Go.ChangeSpec) : _root_.Go.OpenSpec := { _root_.Go.OpenSpec.ofChange s with cond := some uptoSmall }

/-- 'callboylaw08.BudgetChanges', WHERE WHAT IT READS IS OF BULK AT MOST 1048576: true; the input reads as it did. -/
def budgetChangesUptoRow : OpenClaim := { program := "ytnldfglgdchinaa", sum := "cd8b1d6491dddbda842710d9089054a153299dd35984bb2bd79b1d9ef12b7cfc", func := "callboy/callboylaw08.BudgetChanges", spec := "budgetChanges", apart := false, narrowed := true }
def BudgetChangesUptoSaid : Prop := budgetChangesUptoRow.holds Try.pinned (OpenSpec.upto budgetChangesSpec)

/-- 'callboylaw08.BudgetTells', WHERE WHAT IT READS IS OF BULK AT MOST 1048576: true; the input reads as it did. -/
def budgetTellsUptoRow : OpenClaim := { program := "ytnldfglgdchinaa", sum := "cd8b1d6491dddbda842710d9089054a153299dd35984bb2bd79b1d9ef12b7cfc", func := "callboy/callboylaw08.BudgetTells", spec := "budgetTells", apart := false, narrowed := true }
def BudgetTellsUptoSaid : Prop := budgetTellsUptoRow.holds Try.pinned (OpenSpec.upto budgetTellsSpec)

/-- 'callboylaw08.BudgetKeeps', WHERE WHAT IT READS IS OF BULK AT MOST 1048576: true; the input reads as it did. -/
def budgetKeepsUptoRow : OpenClaim := { program := "ytnldfglgdchinaa", sum := "cd8b1d6491dddbda842710d9089054a153299dd35984bb2bd79b1d9ef12b7cfc", func := "callboy/callboylaw08.BudgetKeeps", spec := "budgetKeeps", apart := false, narrowed := true }
def BudgetKeepsUptoSaid : Prop := budgetKeepsUptoRow.holds Try.pinned (OpenSpec.upto budgetKeepsSpec)

/-- 'callboylaw08.BudgetBack', WHERE WHAT IT READS IS OF BULK AT MOST 1048576: true; the input reads as it did. -/
def budgetBackUptoRow : OpenClaim := { program := "ytnldfglgdchinaa", sum := "cd8b1d6491dddbda842710d9089054a153299dd35984bb2bd79b1d9ef12b7cfc", func := "callboy/callboylaw08.BudgetBack", spec := "budgetBack", apart := false, narrowed := true }
def BudgetBackUptoSaid : Prop := budgetBackUptoRow.holds Try.pinned (OpenSpec.upto budgetBackSpec)

end Rows
end Go.Proofs.Ytnldfglgdchinaa
