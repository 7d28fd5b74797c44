/- A range over an iterator that keeps its state in a block of its own. -/
import Derived.Test.YtgkeeibjchjlaaaI
import Derived.RangeFuncNested
import Derived.RangeFuncBox
import Derived.RangeFuncBound
import Derived.RangeFuncCalls
import Derived.RangeFuncLeaves
import Derived.Shelf.Abstract
import Derived.WalkKit
import Derived.OwnWalkIn
import Derived.TacticsInMore
import Derived.LoopNIn
import Derived.LoopIn
import Derived.Maps.AppendAt
namespace Go.Proofs.Ytgkeeibjchjlaaa
set_option linter.unusedSimpArgs false
set_option linter.unusedVariables false
open Go.RowKit
open Go.Shelf

/-- What is said of a world stands while block B turns, and new blocks are laid. -/
def StandsAt {β : Type} (B : Nat) (J : β → World → Prop) : Prop :=
  ∀ s W W' row, J s W → W.grownBy W' row → (∀ r, row = some r → r = B) → J s W'

/-- .. and while a block that holds no cells, from m on, turns. -/
def StandsOver {β : Type} (B m : Nat) (J : β → World → Prop) : Prop :=
  ∀ s W W' row, J s W → W.grownBy W' row → (∀ r, row = some r → r = B ∨ (m ≤ r ∧ ∃ o : Obj, W.heap[r]? = some o ∧ o.isCells = false)) → J s W'

/-- A round keeps block B. -/
def KeepsAt (B : Nat) (W W' : World) : Prop := W.heap.size ≤ W'.heap.size ∧ W'.heap[B]? = W.heap[B]?

theorem KeepsAt.trans {B : Nat} {A C D : World} (h : KeepsAt B A C) (k : KeepsAt B C D) : KeepsAt B A D := ⟨Nat.le_trans h.1 k.1, k.2.trans h.2⟩
theorem KeepsAt.put {B l : Nat} (W : World) (o : Obj) (h : B ≠ l) : KeepsAt B W (W.putObj l o) := ⟨by simp, World.putObj_heap_other h⟩

/-- What an iterator promises that keeps its own state in block B: it hands over just these, one behind the other, or is stopped behind some of them. -/
def GivesAt {α : Type} (F : Fence) (n : Nat) (P : Program) (g : Nat) (lb : Array Value) (encs : α → Array Value) (B : Nat) (items : List α) (w : World) : Prop :=
  ∀ (l : Nat) (J Jx : List α → World → Prop) (W : World), W.heap[B]? = w.heap[B]? → StandsAt B J → StandsAt B Jx →
    (∀ pre x W1, J pre W1 → (∃ rest, items = pre ++ x :: rest) → YieldAt F (n - 1) P l (encs x) W1 fun e W' =>
      (e = .returned (.bool true) ∧ J (pre ++ [x]) W' ∧ KeepsAt B W1 W') ∨ (e = .returned (.bool false) ∧ Jx (pre ++ [x]) W')) →
    J [] W →
    CallsIn F n P g (#[.func (.yield l) #[] #[]] ++ lb) W fun e W' => (∃ v, e = .returned v) ∧ (J items W' ∨ (∃ pre, pre <+: items ∧ Jx pre W'))

/-- How a round's body may be left. -/
def roundEnd {α : Type} (B : Nat) (I : List α → World → Prop) (Ix : Code → List α → World → Prop) (xs : List α) (W : World) : Exit → Act → World → Prop
  | .normal, _, W' => KeepsOthers W W' ∧ KeepsAt B W W' ∧ I xs W'
  | .ret, _, W' => KeepsOthers W W' ∧ Ix .ret xs W'
  | _, _, _ => False

variable {F : Fence} {n : Nat} {P : Program}

theorem StandsOver.put {β : Type} {B m : Nat} {I : β → World → Prop} (h : StandsOver B m I) {s : β} {W : World} {l : Nat} {o : Obj} (o' : Obj) (hs : I s W) (hm : m ≤ l) (hl : W.heap[l]? = some o) (ho : o.isCells = false) : I s (W.putObj l o') :=
  h s W _ (some l) hs (grownBy_putObj' W l o') (fun r e => by cases e; exact .inr ⟨hm, o, hl, ho⟩)
theorem StandsOver.lay {β : Type} {B m : Nat} {I : β → World → Prop} (h : StandsOver B m I) {s : β} {W : World} (o : Obj) (hs : I s W) : I s (W.alloc o) :=
  h s W _ none hs (World.grownBy_alloc W o none) (fun r e => by cases e)
theorem StandsOver.at_ {β : Type} {B m : Nat} {I : β → World → Prop} (h : StandsOver B m I) : StandsAt B I :=
  fun s W W' row hs hg hr => h s W W' row hs hg (fun r e => .inl (hr r e))

/-- The range over such an iterator. -/
theorem walk_rangeAt {α : Type} {g : Operand} {ps : Array Tmp} {assign body : Code} {Q : Exit → Act → World → Prop} {a : Act} {w : World}
    (hro : F.round = none) (h1 : 1 ≤ n) {gf : Nat} {lb : Array Value} (hg : a.eval g = .func (.func gf) #[] lb) (hFg : F.fn gf) (eg : ∀ args w, (callFunc gf args).run P w = .ok (.enter gf args) w)
    {encs : α → Array Value} {B : Nat} {items : List α} (hseq : GivesAt F (n - 1) P gf lb encs B items w) (hB : B < w.heap.size) (hps : ∀ x, (encs x).size = ps.size)
    (I : List α → World → Prop) (Ix : Code → List α → World → Prop) (hI : StandsOver B w.heap.size I) (hIx : ∀ c, StandsOver B w.heap.size (Ix c)) (h0 : I [] w) (a₁ : α → Act)
    (hassign : ∀ (l : Nat) (x : α) (W : World) (K : Act → World → Prop), K (a₁ x) W →
      assign.wpIn (F.inRound l) (n - 1 - 1) P (Exit.then K (fun _ _ _ => False)) { tmps := (ps.zip (encs x)).foldl (fun t (p, v) => t.setIfInBounds p v) a.tmps, defers := [] } W)
    (hbody : ∀ (l : Nat) (pre : List α) (x : α) (W : World), I pre W → (∃ rest, items = pre ++ x :: rest) → body.wpIn (F.inRound l) (n - 1 - 1) P (roundEnd B I Ix (pre ++ [x]) W) (a₁ x) W)
    (hdone : ∀ (D : Nat) (W : World), w.heap.size ≤ D → I items W → W.heap[D]? = some (.deferred (some [])) → Q .normal { a with defers := { target := .collected D, args := #[] } :: a.defers } W)
    (hstop : ∀ (D : Nat) (pre : List α) (W : World), w.heap.size ≤ D → pre <+: items → Ix .ret pre W → W.heap[D]? = some (.deferred (some [])) → Code.ret.wpIn F n P Q { a with defers := { target := .collected D, args := #[] } :: a.defers } W) :
    (Code.rangeFunc g ps assign body).wpIn F n P Q a w := by
  refine wpIn_rangeFunc (fun fn hfn => ?_)
  rw [hro]
  -- the record, by its state and its pending jump; its block; the deferred calls' block
  obtain ⟨D, hD⟩ : ∃ D, D = w.heap.size := ⟨_, rfl⟩
  obtain ⟨R, hR⟩ : ∃ R : LoopState → Option Code → Loop, ∀ st pe, R st pe = { state := st, pending := pe, fn, tmps := a.tmps, params := ps, assign, body, defers := D } := ⟨_, fun _ _ => rfl⟩
  obtain ⟨V, hV⟩ : ∃ V, V = (w.alloc (.deferred (some []))).alloc (.loop (R .ready none)) := ⟨_, rfl⟩
  have vl : V.heap[D + 1]? = some (.loop (R .ready none)) := by
    rw [hV, hD]
    have := World.alloc_heap_new (w.alloc (.deferred (some []))) (.loop (R .ready none))
    rwa [World.size_alloc] at this
  have vd : V.heap[D]? = some (.deferred (some [])) := by
    rw [hV, hD]
    exact (Below.heap_alloc _ _ _ (by simp)).trans (World.alloc_heap_new w _)
  have vb : V.heap[B]? = w.heap[B]? := by
    rw [hV]
    exact (Below.heap_alloc _ _ _ (by simp; omega)).trans (Below.heap_alloc _ _ _ hB)
  have vi : I [] V := by rw [hV]; exact hI.lay _ (hI.lay _ h0)
  -- what lies in the two blocks
  have keep : ∀ {A C : World} {row : Option Nat} {k : Nat} {o : Obj}, A.grownBy C row → (∀ r, row = some r → r = B) → D ≤ k → A.heap[k]? = some o → C.heap[k]? = some o := fun hgr hr hk ho =>
    (hgr.block _ (Array.getElem?_eq_some_iff.1 ho).1 (fun e => by have := hr _ e.symm; omega)).trans ho
  refine ⟨D + 1, [{ target := .collected D, args := #[] }], V, { target := .fn (.func gf) lb, args := #[.func (.yield (D + 1)) #[] #[]] }, V, gf, #[.func (.yield (D + 1)) #[] #[]] ++ lb, V, ?_, ?_, ?_, ?_, fun _ => h1, ?_⟩
  · rw [hV, hR, hD]; exact run_enterLoop_outer _ _ _ _ _
  · simp only [resolve, hg]
    simp [go_sem]
  · intro f' hf'
    simp [Target.leads] at hf'
    subst hf'
    exact hFg
  · simp [invoke, go_sem, eg]
  have endR : ∀ (jump : Option Code) (W : World), W.heap[D + 1]? = some (.loop (R .busy none)) →
      (Instr.endRound (D + 1) jump).run P W = .ok (.bool jump.isNone) (W.putObj (D + 1) (.loop (R (if jump.isNone then .ready else .done) jump))) := fun jump W h => by
    have := run_endRound (P := P) jump h
    simpa only [hR] using this
  have endL : ∀ (st : LoopState) (jump : Option Code) (W : World), W.heap[D + 1]? = some (.loop (R st jump)) → st ≠ .busy →
      (Instr.endLoop (D + 1)).run P W = .ok jump (W.putObj (D + 1) (.loop (R .exhausted jump))) := fun st jump W h hb => by
    have := run_endLoop (P := P) h (by rw [hR]; exact hb)
    simpa only [hR] using this
  refine (hseq (D + 1)
    (fun pre W => I pre W ∧ W.heap[D + 1]? = some (.loop (R .ready none)) ∧ W.heap[D]? = some (.deferred (some [])))
    (fun pre W => Ix .ret pre W ∧ W.heap[D + 1]? = some (.loop (R .done (some .ret))) ∧ W.heap[D]? = some (.deferred (some [])))
    V vb
    (fun s A C row hs hgr hr => ⟨hI.at_ s A C row hs.1 hgr hr, keep hgr hr (by omega) hs.2.1, keep hgr hr (Nat.le_refl _) hs.2.2⟩)
    (fun s A C row hs hgr hr => ⟨(hIx _).at_ s A C row hs.1 hgr hr, keep hgr hr (by omega) hs.2.1, keep hgr hr (Nat.le_refl _) hs.2.2⟩)
    ?round ⟨vi, vl, vd⟩).mono ?behind
  case behind =>
    rintro e W2 ⟨⟨v, rfl⟩, (⟨hi, hl, hd⟩ | ⟨pre, hpre, hi, hl, hd⟩)⟩
    · exact ⟨none, _, endL _ _ _ hl (by simp), hdone D _ (by omega) (hI.put _ hi (by omega) hl rfl) ((World.putObj_heap_other (by omega)).trans hd)⟩
    · exact ⟨some .ret, _, endL _ _ _ hl (by simp), hstop D pre _ (by omega) hpre ((hIx _).put _ hi (by omega) hl rfl) ((World.putObj_heap_other (by omega)).trans hd)⟩
  case round =>
    rintro pre x W ⟨hi, hl, hd⟩ hrest
    have hlt : D + 1 < W.heap.size := (Array.getElem?_eq_some_iff.1 hl).1
    have hy := run_yield (P := P) (args := encs x) hl (by rw [hR]; exact hps x)
    rw [hR] at hy
    obtain ⟨U, hU⟩ : ∃ U, U = W.putObj (D + 1) (.loop (R .busy none)) := ⟨_, rfl⟩
    have hb := run_beginRound (P := P) hl (by rw [hR])
    rw [hR] at hb
    refine ⟨fn, _, assign, body, hy, roundIn_of_wpIn hfn (hassign _ x W _ ⟨U, by rw [hU, hR]; exact hb, ?_⟩)⟩
    have ul : U.heap[D + 1]? = some (.loop (R .busy none)) := by rw [hU]; exact World.putObj_heap_same hlt
    have ud : U.heap[D]? = some (.deferred (some [])) := by rw [hU]; exact (World.putObj_heap_other (by omega)).trans hd
    have uk : KeepsAt B W U := by rw [hU]; exact KeepsAt.put W _ (by omega)
    have ui : I pre U := by rw [hU]; exact hI.put _ hi (by omega) hl rfl
    refine wpIn_mono (hbody _ pre x U ui hrest) ?_
    rintro e a3 W3 hp
    cases e with
    | normal =>
      obtain ⟨ko, ka, hi3⟩ := hp
      have l3 := ko.same _ _ ul rfl
      exact ⟨_, _, endR none W3 l3, .inl ⟨rfl, ⟨hI.put _ hi3 (by omega) l3 rfl, World.putObj_heap_same (Array.getElem?_eq_some_iff.1 l3).1, (World.putObj_heap_other (by omega)).trans (ko.same _ _ ud rfl)⟩, (uk.trans ka).trans (KeepsAt.put W3 _ (by omega))⟩⟩
    | ret =>
      obtain ⟨ko, hi3⟩ := hp
      have l3 := ko.same _ _ ul rfl
      exact ⟨_, _, endR (some .ret) W3 l3, .inr ⟨rfl, (hIx _).put _ hi3 (by omega) l3 rfl, World.putObj_heap_same (Array.getElem?_eq_some_iff.1 l3).1, (World.putObj_heap_other (by omega)).trans (ko.same _ _ ud rfl)⟩⟩
    | exit id => exact hp.elim
    | goto t => exact hp.elim
    | panic ch => exact hp.elim
    | outgrown => exact hp.elim

end Go.Proofs.Ytgkeeibjchjlaaa
