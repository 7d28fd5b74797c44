/-
  No cell of these rows narrows 'for every input' (looked for: loops, veiled, ifaces, maps, wideKeys, modest, calm, conditions, laid).
  DERIVED. THE GIVEN ROWS OF THIS SEAT. 6 by the template 'for every input the law returns true; each argument reads behind the call as it read before'; 0 by the template 'total and deterministic' (their statements: YtfkfnhehbhebeaaTotals.lean).
  GIVEN WITH THE SEED: the statements are not yours to turn. If you find one false, say at which input.
  Laid BY PROGRAM, IN A SANDBOX (cutbox-rows.mjs): the forced cells as the released guide's own fill.sh prints them over the translation 39c6bcc09983fec6… (all of the seat's roots in one cut). By AI agents, Wed Nov 11 2026. No macro, syntax, notation, axiom, sorry.
-/
import Derived.Test.YtfkfnhehbhebeaaChecked
import GoSem.Claim
import GoSem.ClaimJoined
import GoSem.ClaimMapViews
import Derived.JoinedTies
import Derived.KernelRfl
namespace Go.Proofs.Ytfkfnhehbhebeaa
/- THE CELL 'sum', in the pinned program and in every row, IS THE sha256 OF THE DUMP (.gsa) THAT YtfkfnhehbhebeaaProg.lean LOADS. Nothing in Lean hashes anything: it is a label: what it is worth is what the hold of that sum in a sandbox is worth. -/
noncomputable def Try.pinned : Pinned := { name := "ytfkfnhehbhebeaa", sum := "39c6bcc09983fec619d405d7212c2643d4d651709bec6dcf9df0a5ce6b0ef3d7", checked := Try.checked }
namespace Rows
def none {H : Type} : Left H := { results := [], args := [] }

/-- 'callboylaw01.OctetReads': WHATEVER THE INPUT: true; the input reads as it did. -/
def octetReadsSpec : ChangeSpec := { name := "octetReads", fn := fun _ => fun
  | [d1, d2] => { results := [.lit (.bool true)], args := [d1, d2] }
  | _ => none }
def octetReadsRow : OpenClaim := { program := "ytfkfnhehbhebeaa", sum := "39c6bcc09983fec619d405d7212c2643d4d651709bec6dcf9df0a5ce6b0ef3d7", func := "callboy/callboylaw01.OctetReads", spec := "octetReads", apart := false }
def OctetReadsSaid : Prop := octetReadsRow.holds Try.pinned (OpenSpec.ofChange octetReadsSpec)

/-- ITS FALSE NEIGHBOUR: 'it returns false'. Refute it at one input. -/
def octetReadsWrong : ChangeSpec := { name := "octetReads", fn := fun _ => fun
  | [d1, d2] => { results := [.lit (.bool false)], args := [d1, d2] }
  | _ => none }
def OctetReadsWrongFalsely : Prop := octetReadsRow.holds Try.pinned (OpenSpec.ofChange octetReadsWrong)

/-- 'callboylaw01.OctetLays': WHATEVER THE INPUT: true; the input reads as it did. -/
def octetLaysSpec : ChangeSpec := { name := "octetLays", fn := fun _ => fun
  | [d1, d2, d3] => { results := [.lit (.bool true)], args := [d1, d2, d3] }
  | _ => none }
def octetLaysRow : OpenClaim := { program := "ytfkfnhehbhebeaa", sum := "39c6bcc09983fec619d405d7212c2643d4d651709bec6dcf9df0a5ce6b0ef3d7", func := "callboy/callboylaw01.OctetLays", spec := "octetLays", apart := false }
def OctetLaysSaid : Prop := octetLaysRow.holds Try.pinned (OpenSpec.ofChange octetLaysSpec)

/-- ITS FALSE NEIGHBOUR: 'it returns false'. Refute it at one input. -/
def octetLaysWrong : ChangeSpec := { name := "octetLays", fn := fun _ => fun
  | [d1, d2, d3] => { results := [.lit (.bool false)], args := [d1, d2, d3] }
  | _ => none }
def OctetLaysWrongFalsely : Prop := octetLaysRow.holds Try.pinned (OpenSpec.ofChange octetLaysWrong)

/-- 'callboylaw01.OctetPacks': WHATEVER THE INPUT: true; the input reads as it did. -/
def octetPacksSpec : ChangeSpec := { name := "octetPacks", fn := fun _ => fun
  | [d1, d2, d3] => { results := [.lit (.bool true)], args := [d1, d2, d3] }
  | _ => none }
def octetPacksRow : OpenClaim := { program := "ytfkfnhehbhebeaa", sum := "39c6bcc09983fec619d405d7212c2643d4d651709bec6dcf9df0a5ce6b0ef3d7", func := "callboy/callboylaw01.OctetPacks", spec := "octetPacks", apart := false }
def OctetPacksSaid : Prop := octetPacksRow.holds Try.pinned (OpenSpec.ofChange octetPacksSpec)

/-- ITS FALSE NEIGHBOUR: 'it returns false'. Refute it at one input. -/
def octetPacksWrong : ChangeSpec := { name := "octetPacks", fn := fun _ => fun
  | [d1, d2, d3] => { results := [.lit (.bool false)], args := [d1, d2, d3] }
  | _ => none }
def OctetPacksWrongFalsely : Prop := octetPacksRow.holds Try.pinned (OpenSpec.ofChange octetPacksWrong)

/-- 'callboylaw01.OctetBack': WHATEVER THE INPUT: true; the input reads as it did. -/
def octetBackSpec : ChangeSpec := { name := "octetBack", fn := fun _ => fun
  | [d1, d2, d3] => { results := [.lit (.bool true)], args := [d1, d2, d3] }
  | _ => none }
def octetBackRow : OpenClaim := { program := "ytfkfnhehbhebeaa", sum := "39c6bcc09983fec619d405d7212c2643d4d651709bec6dcf9df0a5ce6b0ef3d7", func := "callboy/callboylaw01.OctetBack", spec := "octetBack", apart := false }
def OctetBackSaid : Prop := octetBackRow.holds Try.pinned (OpenSpec.ofChange octetBackSpec)

/-- ITS FALSE NEIGHBOUR: 'it returns false'. Refute it at one input. -/
def octetBackWrong : ChangeSpec := { name := "octetBack", fn := fun _ => fun
  | [d1, d2, d3] => { results := [.lit (.bool false)], args := [d1, d2, d3] }
  | _ => none }
def OctetBackWrongFalsely : Prop := octetBackRow.holds Try.pinned (OpenSpec.ofChange octetBackWrong)

/-- 'callboylaw01.OctetUnpacks': WHATEVER THE INPUT: true; the input reads as it did. -/
def octetUnpacksSpec : ChangeSpec := { name := "octetUnpacks", fn := fun _ => fun
  | [d1, d2] => { results := [.lit (.bool true)], args := [d1, d2] }
  | _ => none }
def octetUnpacksRow : OpenClaim := { program := "ytfkfnhehbhebeaa", sum := "39c6bcc09983fec619d405d7212c2643d4d651709bec6dcf9df0a5ce6b0ef3d7", func := "callboy/callboylaw01.OctetUnpacks", spec := "octetUnpacks", apart := false }
def OctetUnpacksSaid : Prop := octetUnpacksRow.holds Try.pinned (OpenSpec.ofChange octetUnpacksSpec)

/-- ITS FALSE NEIGHBOUR: 'it returns false'. Refute it at one input. -/
def octetUnpacksWrong : ChangeSpec := { name := "octetUnpacks", fn := fun _ => fun
  | [d1, d2] => { results := [.lit (.bool false)], args := [d1, d2] }
  | _ => none }
def OctetUnpacksWrongFalsely : Prop := octetUnpacksRow.holds Try.pinned (OpenSpec.ofChange octetUnpacksWrong)

/-- 'callboylaw01.OctetStays': WHATEVER THE INPUT: true; the input reads as it did. -/
def octetStaysSpec : ChangeSpec := { name := "octetStays", fn := fun _ => fun
  | [d1, d2] => { results := [.lit (.bool true)], args := [d1, d2] }
  | _ => none }
def octetStaysRow : OpenClaim := { program := "ytfkfnhehbhebeaa", sum := "39c6bcc09983fec619d405d7212c2643d4d651709bec6dcf9df0a5ce6b0ef3d7", func := "callboy/callboylaw01.OctetStays", spec := "octetStays", apart := false }
def OctetStaysSaid : Prop := octetStaysRow.holds Try.pinned (OpenSpec.ofChange octetStaysSpec)

/-- ITS FALSE NEIGHBOUR: 'it returns false'. Refute it at one input. -/
def octetStaysWrong : ChangeSpec := { name := "octetStays", fn := fun _ => fun
  | [d1, d2] => { results := [.lit (.bool false)], args := [d1, d2] }
  | _ => none }
def OctetStaysWrongFalsely : Prop := octetStaysRow.holds Try.pinned (OpenSpec.ofChange octetStaysWrong)

/- THE SECOND FORM. 'bulk': how many values and letters a reading holds, each counted each time it is reached (what is shared counts as often as it is met; a slice's spare places count too). A statement '..UptoSaid' is the law's where the arguments, and the package variables that the reading takes, are together of bulk at most 1048576: NARROWER than '..Said'. Prove '..Said' where nothing that the law and all that it calls make is longer than what came in: it says more and counts as full. Else prove '..UptoSaid'. A law counts once. -/
mutual
def uptoBulk {H : Type} : DataW H → Nat
  | .lit (.string bytes) => bytes.length + 1
  | .lit _ => 1
  | .nil => 1
  | .ptr d => uptoBulk d + 1
  | .slice elems spare => uptoBulkAll elems + uptoBulkAll spare + 1
  | .agg parts => uptoBulkAll parts + 1
  | .iface _ d => uptoBulk d + 1
  | .map entries => uptoBulkEntries entries + 1
  | .held _ => 1
def uptoBulkAll {H : Type} : List (DataW H) → Nat
  | [] => 0
  | d :: r => uptoBulk d + uptoBulkAll r
def uptoBulkEntries {H : Type} : List (Lit × DataW H) → Nat
  | [] => 0
  | x :: r => uptoBulkEntry x + uptoBulkEntries r
def uptoBulkEntry {H : Type} : Lit × DataW H → Nat
  | (.string bytes, d) => bytes.length + uptoBulk d + 1
  | (_, d) => uptoBulk d + 1
 end
def uptoSmall : (H : Type) → List (DataW H) → Bool := fun _ ds => decide (uptoBulkAll ds ≤ 1048576)
def OpenSpec.upto (s : _root_.Go.ChangeSpec) : _root_.Go.OpenSpec := { _root_.Go.OpenSpec.ofChange s with cond := some uptoSmall }

/-- 'callboylaw01.OctetReads', WHERE WHAT IT READS IS OF BULK AT MOST 1048576: true; the input reads as it did. -/
def octetReadsUptoRow : OpenClaim := { program := "ytfkfnhehbhebeaa", sum := "39c6bcc09983fec619d405d7212c2643d4d651709bec6dcf9df0a5ce6b0ef3d7", func := "callboy/callboylaw01.OctetReads", spec := "octetReads", apart := false, narrowed := true }
def OctetReadsUptoSaid : Prop := octetReadsUptoRow.holds Try.pinned (OpenSpec.upto octetReadsSpec)

/-- 'callboylaw01.OctetLays', WHERE WHAT IT READS IS OF BULK AT MOST 1048576: true; the input reads as it did. -/
def octetLaysUptoRow : OpenClaim := { program := "ytfkfnhehbhebeaa", sum := "39c6bcc09983fec619d405d7212c2643d4d651709bec6dcf9df0a5ce6b0ef3d7", func := "callboy/callboylaw01.OctetLays", spec := "octetLays", apart := false, narrowed := true }
def OctetLaysUptoSaid : Prop := octetLaysUptoRow.holds Try.pinned (OpenSpec.upto octetLaysSpec)

/-- 'callboylaw01.OctetPacks', WHERE WHAT IT READS IS OF BULK AT MOST 1048576: true; the input reads as it did. -/
def octetPacksUptoRow : OpenClaim := { program := "ytfkfnhehbhebeaa", sum := "39c6bcc09983fec619d405d7212c2643d4d651709bec6dcf9df0a5ce6b0ef3d7", func := "callboy/callboylaw01.OctetPacks", spec := "octetPacks", apart := false, narrowed := true }
def OctetPacksUptoSaid : Prop := octetPacksUptoRow.holds Try.pinned (OpenSpec.upto octetPacksSpec)

/-- 'callboylaw01.OctetBack', WHERE WHAT IT READS IS OF BULK AT MOST 1048576: true; the input reads as it did. -/
def octetBackUptoRow : OpenClaim := { program := "ytfkfnhehbhebeaa", sum := "39c6bcc09983fec619d405d7212c2643d4d651709bec6dcf9df0a5ce6b0ef3d7", func := "callboy/callboylaw01.OctetBack", spec := "octetBack", apart := false, narrowed := true }
def OctetBackUptoSaid : Prop := octetBackUptoRow.holds Try.pinned (OpenSpec.upto octetBackSpec)

/-- 'callboylaw01.OctetUnpacks', WHERE WHAT IT READS IS OF BULK AT MOST 1048576: true; the input reads as it did. -/
def octetUnpacksUptoRow : OpenClaim := { program := "ytfkfnhehbhebeaa", sum := "39c6bcc09983fec619d405d7212c2643d4d651709bec6dcf9df0a5ce6b0ef3d7", func := "callboy/callboylaw01.OctetUnpacks", spec := "octetUnpacks", apart := false, narrowed := true }
def OctetUnpacksUptoSaid : Prop := octetUnpacksUptoRow.holds Try.pinned (OpenSpec.upto octetUnpacksSpec)

/-- 'callboylaw01.OctetStays', WHERE WHAT IT READS IS OF BULK AT MOST 1048576: true; the input reads as it did. -/
def octetStaysUptoRow : OpenClaim := { program := "ytfkfnhehbhebeaa", sum := "39c6bcc09983fec619d405d7212c2643d4d651709bec6dcf9df0a5ce6b0ef3d7", func := "callboy/callboylaw01.OctetStays", spec := "octetStays", apart := false, narrowed := true }
def OctetStaysUptoSaid : Prop := octetStaysUptoRow.holds Try.pinned (OpenSpec.upto octetStaysSpec)

end Rows
end Go.Proofs.Ytfkfnhehbhebeaa
