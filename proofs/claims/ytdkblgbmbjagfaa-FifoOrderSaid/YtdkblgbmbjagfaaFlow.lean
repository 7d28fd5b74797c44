/- A law on a region that draws its order: the operations that only read, call what only makes new memory, or lay a new block come in whatever order; behind them the rest comes in one order. It is shown by one walk. Over whatever program. -/
import Derived.WalkKit
import Derived.Deep.QuietTactic
import Derived.Deep.RegionHeld3
namespace Go.Proofs.Ytdkblgbmbjagfaa
open Go.RowKit

/-- The world w' is w with more in it: what was there has not turned. -/
abbrev Ext (w w' : World) : Prop := Below w.heap.size w w'

theorem Ext.refl (w : World) : Ext w w := Below.refl _ _
theorem Ext.trans {a b c : World} (h : Ext a b) (k : Ext b c) : Ext a c := Below.trans h (Below.mono k h.size)
theorem Ext.drew (w : World) : Ext w w.drew := (Below.refl _ _).drew
theorem Ext.drewN (w : World) (n : Nat) : Ext w (w.drewN n) := ⟨rfl, rfl, rfl, Nat.le_refl _, fun _ _ => rfl⟩
theorem Ext.own {w w' : World} (h : Ext w w') {base : Nat} {e : TypeId} {size : Nat} {v : Value} {n : Nat} {xs : List Value} (ho : w.ownsRow base e size v n xs) : w'.ownsRow base e size v n xs :=
  ho.kept (row := none) ⟨h.os, h.tape, h.output, h.size, fun k hk _ => h.block k hk⟩ (Decidable.em _)
theorem Ext.alloc (w : World) (o : Obj) : Ext w (w.alloc o) := (Below.refl _ _).alloc (Nat.le_refl _) _

section
variable {P : Program} {ops : Array Oper} {Q : Exit → Act → World → Prop}

/-- Nothing that operation o looks at parts a from a'. -/
def Alike (ops : Array Oper) (o : Oper) (a a' : Act) : Prop :=
  execOp a'.eval o = execOp a.eval o ∧ Region.wanted o (yielded ops a'.tmps) = Region.wanted o (yielded ops a.tmps)

theorem wpOp_commute {j : Nat} {oi oj : Oper} {v : Value} (hj : ops[j]? = some oj) (hap : oi.apart ops oj = true)
    (hsi : ∀ cs b, oi.op ≠ .select cs b) (hsj : ∀ cs b, oj.op ≠ .select cs b)
    (hQ : ∀ c a d v w, Q (.panic c) (Act.put a d v) w → Q (.panic c) a w) {K : Act → World → Prop} {a : Act} {w : World}
    (h : wpOp P ops Q j K (a.put oi.dst v) w) :
    wpOp P ops Q j (fun a' w' => Alike ops oi a a' ∧ K (a'.put oi.dst v) w') a w := by
  obtain ⟨h1, h2, h3⟩ := Oper.apart_spec hap
  have same : ∀ u, Alike ops oi a (a.put oj.dst u) := fun u => ⟨execOp_put oi hsi a oj.dst u h3, wanted_put oi a oj.dst u h3⟩
  have sameD : ∀ d u, Alike ops oi a (({ a with defers := d :: a.defers } : Act).put oj.dst u) := fun d u =>
    ⟨execOp_put oi hsi _ oj.dst u h3, wanted_put oi _ oj.dst u h3⟩
  unfold wpOp at h ⊢
  simp only [hj] at h ⊢
  rw [wanted_put oj a oi.dst v h1] at h
  by_cases hw : Region.wanted oj (yielded ops a.tmps) = true
  · rw [if_pos hw] at h ⊢
    rcases h with h | ⟨ha, hl⟩
    · left
      unfold Oper.wp at h ⊢
      rw [execOp_put oj hsj a oi.dst v h1] at h
      cases hr : (execOp a.eval oj).run P w with
      | halt x w1 =>
        rw [hr] at h
        cases x <;> simp only [Oper.upon] at h ⊢
        exact hQ _ _ _ _ _ h
      | ok n w1 =>
        rw [hr] at h
        cases n <;> simp only [Oper.upon] at h ⊢
        case value u => exact ⟨same u, by rw [← Act.put_comm a v u h2]; exact h⟩
        case skip => exact ⟨same _, by rw [← Act.put_comm a v undef h2]; exact h⟩
        case defer d => exact ⟨sameD d _, by rw [← Act.put_comm _ v undef h2, ← Act.put_defers]; exact h⟩
        case row r args => exact Rows.mono h fun u w2 he => ⟨same u, by rw [← Act.put_comm a v u h2]; exact he⟩
        case enter f args =>
          refine Calls.mono h fun e w2 he => ?_
          cases e with
          | returned u => exact ⟨same u, by rw [← Act.put_comm a v u h2]; exact he⟩
          | panicked c => exact hQ _ _ _ _ _ he
          | outgrown => exact he
    · exact .inr ⟨by unfold Oper.asks at ha ⊢; rwa [execOp_put oj hsj a oi.dst v h1] at ha, hl⟩
  · rw [if_neg hw] at h ⊢
    exact ⟨same _, by rw [← Act.put_comm a v undef h2]; exact h⟩

/-- All of hs have come up. -/
def full (hs : List Nat) (listed : Array Bool) : Bool := hs.all fun i => listed.getD i false

/-- In whatever order: as long as one of hs has not come up, what was there stays; the walk goes on in every greater world. -/
def wpE (P : Program) (ops : Array Oper) (Q : Exit → Act → World → Prop) (hs : List Nat) : Nat → Array Bool → Act → World → Prop
  | 0, listed, a, w => ∀ w1, Ext w w1 → wpAny P .any ops Q 0 listed a w1
  | fuel + 1, listed, a, w => ∀ w1, Ext w w1 →
      if full hs listed = true then wpAny P .any ops Q (fuel + 1) listed a w1
      else (Region.ready .any ops listed = [] → Q .normal a w1) ∧
        ∀ j ∈ Region.ready .any ops listed, wpOp P ops Q j (fun a' w' => Ext w1 w' ∧ wpE P ops Q hs fuel (listed.setIfInBounds j true) a' w') a w1

theorem wpE_mono {hs : List Nat} {fuel : Nat} {listed : Array Bool} {a : Act} {w w1 : World} (hw : Ext w w1) (h : wpE P ops Q hs fuel listed a w) : wpE P ops Q hs fuel listed a w1 := by
  cases fuel with
  | zero => exact fun w2 h2 => h w2 (hw.trans h2)
  | succ fuel => exact fun w2 h2 => h w2 (hw.trans h2)

theorem wpAny_of_E {hs : List Nat} : ∀ (fuel : Nat) (listed : Array Bool) (a : Act) (w : World), wpE P ops Q hs fuel listed a w → wpAny P .any ops Q fuel listed a w
  | 0, _, _, w, h => h w (Ext.refl w)
  | fuel + 1, listed, a, w, h => by
    have h1 := h w (Ext.refl w)
    split at h1
    · exact h1
    · exact ⟨h1.1, fun j hj => wpOp_mono (fun a' w' h' => wpAny_of_E fuel _ a' w' h'.2) (h1.2 j hj)⟩

/-- From w on operation o always yields v, and turns nothing that was there. -/
def YieldsE (P : Program) (ops : Array Oper) (o : Oper) (v : Value) (a : Act) (w : World) : Prop :=
  (Region.wanted o (yielded ops a.tmps) = true ∧ ∀ w1, Ext w w1 → o.quietAt P a (Ext w1) w1 v) ∨ (Region.wanted o (yielded ops a.tmps) = false ∧ v = undef)

theorem YieldsE.mono {o : Oper} {v : Value} {a : Act} {w w1 : World} (h : YieldsE P ops o v a w) (hw : Ext w w1) : YieldsE P ops o v a w1 :=
  h.imp (fun ⟨h1, h2⟩ => ⟨h1, fun w2 hw2 => h2 w2 (hw.trans hw2)⟩) id

theorem YieldsE.alike {o : Oper} {v : Value} {a a' : Act} {w : World} (h : YieldsE P ops o v a w) (hs : Alike ops o a a') : YieldsE P ops o v a' w := by
  unfold YieldsE Oper.quietAt at *
  rw [hs.1, hs.2]
  exact h

theorem YieldsE.wpOp {i : Nat} {o : Oper} {v : Value} {a : Act} {w : World} (hi : ops[i]? = some o) (h : YieldsE P ops o v a w) {K : Act → World → Prop}
    (hK : ∀ w', Ext w w' → K (a.put o.dst v) w') : wpOp P ops Q i K a w := by
  unfold Go.wpOp
  simp only [hi]
  rcases h with ⟨hw, h⟩ | ⟨hw, rfl⟩
  · rw [if_pos hw]
    left
    have h1 := h w (Ext.refl w)
    unfold Oper.quietAt at h1
    unfold Oper.wp
    cases hr : (execOp a.eval o).run P w with
    | halt x w1 => rw [hr] at h1; exact h1.elim
    | ok n w1 =>
      rw [hr] at h1
      cases n <;> simp only [Oper.quietUpon] at h1 <;> simp only [Oper.upon]
      case value u => obtain ⟨rfl, rfl⟩ := h1; exact hK _ (Ext.refl _)
      case skip => obtain ⟨rfl, rfl⟩ := h1; exact hK _ (Ext.refl _)
      case enter f args =>
        obtain ⟨rfl, hc⟩ := h1
        exact hc.mono fun e w2 ⟨he, h2⟩ => by subst he; exact hK _ h2
  · rw [if_neg (by simp [hw])]
    exact hK _ (Ext.refl _)

/-- What has come up has come up behind all that it waits for. -/
def Inv (ops : Array Oper) (listed : Array Bool) : Prop :=
  listed.size = ops.size ∧ ∀ j o, ops[j]? = some o → listed.getD j false = true → ∀ e ∈ o.after, Region.binds .any e = true → listed.getD e.on false = true

theorem getD_set_self {listed : Array Bool} {i : Nat} (h : i < listed.size) (d : Bool) : (listed.setIfInBounds i true).getD i d = true := by
  simp [h]

theorem lt_of_ready {j : Nat} {listed : Array Bool} (hj : j ∈ Region.ready .any ops listed) : j < ops.size := by
  obtain ⟨_, o, ho, _⟩ := mem_ready.1 hj
  exact (Array.getElem?_eq_some_iff.1 ho).1

theorem Inv.set {listed : Array Bool} (h : Inv ops listed) {j : Nat} (hj : j ∈ Region.ready .any ops listed) : Inv ops (listed.setIfInBounds j true) := by
  refine ⟨by simp [h.1], fun k o ho hk e he hb => ?_⟩
  by_cases hkj : k = j
  · subst hkj
    obtain ⟨_, o', ho', hall⟩ := mem_ready.1 hj
    rw [ho] at ho'
    cases ho'
    exact getD_set_true (hall e he hb)
  · rw [getD_set_ne false (Ne.symm hkj)] at hk
    exact getD_set_true (h.2 k o ho hk e he hb)

/-- Does t wait for i, through others or not? -/
def waits (ops : Array Oper) (i : Nat) : Nat → Nat → Bool
  | 0, _ => false
  | n + 1, t => ((ops[t]?).map fun o => o.after.any fun e => Region.binds .any e && (e.on == i || waits ops i n e.on)).getD false

theorem waits_listed {listed : Array Bool} (h : Inv ops listed) {i : Nat} (hi : listed.getD i false = false) : ∀ (n t : Nat), waits ops i n t = true →
    ∃ o, ops[t]? = some o ∧ ∃ e ∈ o.after, Region.binds .any e = true ∧ listed.getD e.on false = false := by
  intro n
  induction n with
  | zero => intro t ht; simp [waits] at ht
  | succ n ih =>
    intro t ht
    unfold waits at ht
    cases ho : ops[t]? with
    | none => simp [ho] at ht
    | some o =>
      simp only [ho, Option.map_some, Option.getD_some, Array.any_eq_true', Bool.and_eq_true, Bool.or_eq_true, beq_iff_eq] at ht
      obtain ⟨e, he, hb, ht⟩ := ht
      refine ⟨o, rfl, e, he, hb, ?_⟩
      rcases ht with ht | ht
      · rw [ht]; exact hi
      · obtain ⟨o', ho', e', he', hb', hl'⟩ := ih _ ht
        cases hl : listed.getD e.on false with
        | false => rfl
        | true => exact absurd (h.2 _ o' ho' hl e' he' hb') (by rw [hl']; simp)

/-- Every operation that is not of hs waits for all of hs. -/
def sunk (ops : Array Oper) (hs : List Nat) : Bool := (List.range ops.size).all fun t => hs.contains t || hs.all fun i => waits ops i ops.size t

theorem safe_of_ready {hs : List Nat} (hk : sunk ops hs = true) {listed : Array Bool} (h : Inv ops listed) {i j : Nat} (hi : i ∈ hs) (hl : listed.getD i false = false)
    (hj : j ∈ Region.ready .any ops listed) : j ∈ hs := by
  have h1 := lt_of_ready hj
  simp only [sunk, List.all_eq_true, List.mem_range, Bool.or_eq_true] at hk
  rcases hk j h1 with h2 | h2
  · simpa using h2
  · obtain ⟨o, ho, e, he, hb, hle⟩ := waits_listed h hl _ _ (h2 i hi)
    obtain ⟨_, o', ho', hall⟩ := mem_ready.1 hj
    rw [ho] at ho'
    cases ho'
    exact absurd (hall e he hb) (by rw [hle]; simp)

theorem full_false {hs : List Nat} {listed : Array Bool} {i : Nat} (hi : i ∈ hs) (hl : listed.getD i false = false) : full hs listed = false := by
  cases h : full hs listed with
  | false => rfl
  | true => simp only [full, List.all_eq_true] at h; rw [h i hi] at hl; cases hl

theorem getD_unlisted {listed : Array Bool} {i : Nat} (h : listed.getD i true = false) : listed.getD i false = false := by
  rcases Nat.lt_or_ge i listed.size with h' | h'
  · simp [h'] at h ⊢; exact h
  · simp [Array.getElem?_eq_none h'] at h

/-- An operation of hs that may come up, is apart from the others, and yields one value from now on, may be taken first. -/
theorem wpE_first {hs : List Nat} (hk : sunk ops hs = true) {i : Nat} {oi : Oper} {v : Value} (hi : ops[i]? = some oi) (his : i ∈ hs) (hsel : ∀ (j : Nat) (o : Oper) cs b, ops[j]? = some o → o.op ≠ .select cs b)
    (hQ : ∀ c a d v w, Q (.panic c) (Act.put a d v) w → Q (.panic c) a w) :
    ∀ (fuel : Nat) (listed : Array Bool) (a : Act) (w : World), Inv ops listed →
      (∀ j oj, ops[j]? = some oj → j ≠ i → listed.getD j true = false → (∀ e ∈ oj.after, Region.binds .any e = true → e.on ≠ i) → oi.apart ops oj = true) →
      i ∈ Region.ready .any ops listed → YieldsE P ops oi v a w →
      wpE P ops Q hs fuel (listed.setIfInBounds i true) (a.put oi.dst v) w → wpE P ops Q hs (fuel + 1) listed a w := by
  intro fuel
  induction fuel with
  | zero =>
    intro listed a w hinv _ hr hy H w1 hw1
    have hun := getD_unlisted (mem_ready.1 hr).1
    rw [if_neg (by rw [full_false his hun]; simp)]
    refine ⟨fun h => (by rw [h] at hr; cases hr), fun j hj => ?_⟩
    by_cases hji : j = i
    · subst hji
      exact (hy.mono hw1).wpOp hi fun w' hw' => ⟨hw', wpE_mono (hw1.trans hw') H⟩
    · have h1 := (H w (Ext.refl w)).1
      have h2 := ready_mono hj hji
      rw [h1] at h2
      cases h2
  | succ fuel ih =>
    intro listed a w hinv hfree hr hy H w1 hw1
    have hun := getD_unlisted (mem_ready.1 hr).1
    rw [if_neg (by rw [full_false his hun]; simp)]
    refine ⟨fun h => (by rw [h] at hr; cases hr), fun j hj => ?_⟩
    by_cases hji : j = i
    · subst hji
      exact (hy.mono hw1).wpOp hi fun w' hw' => ⟨hw', wpE_mono (hw1.trans hw') H⟩
    · have hjs := safe_of_ready hk hinv his hun hj
      obtain ⟨hjun, oj, hoj, hall⟩ := mem_ready.1 hj
      have hjun' := getD_unlisted hjun
      have hnot : ∀ e ∈ oj.after, Region.binds .any e = true → e.on ≠ i := fun e he hb heq => by
        have := hall e he hb
        rw [heq, hun] at this
        cases this
      have h1 := H w1 hw1
      rw [if_neg (by rw [full_false hjs (by rw [getD_set_ne false (Ne.symm hji)]; exact hjun')]; simp)] at h1
      have h2 := wpOp_commute (oi := oi) (v := v) hoj (hfree j oj hoj hji hjun hnot) (fun cs b => hsel i oi cs b hi) (fun cs b => hsel j oj cs b hoj) hQ (h1.2 j (ready_mono hj hji))
      have hfree' : ∀ k ok, ops[k]? = some ok → k ≠ i → (listed.setIfInBounds j true).getD k true = false →
          (∀ e ∈ ok.after, Region.binds .any e = true → e.on ≠ i) → oi.apart ops ok = true := fun k ok hko hki hkun hno => by
        refine hfree k ok hko hki ?_ hno
        by_cases hjk : j = k
        · subst hjk; exact hjun
        · rw [getD_set_ne true hjk] at hkun; exact hkun
      refine wpOp_mono (fun a' w' h3 => ⟨h3.2.1, ih (listed.setIfInBounds j true) a' w' (hinv.set hj) hfree' (ready_mono hr (Ne.symm hji)) (((hy.mono hw1).mono h3.2.1).alike h3.1) ?_⟩) h2
      rw [Array.setIfInBounds_comm _ _ hji]
      exact h3.2.2

/-- The one that may come up comes up. -/
theorem wpE_only {hs : List Nat} {fuel : Nat} {listed : Array Bool} {a : Act} {w : World} {i : Nat} (hr : Region.ready .any ops listed = [i]) (hf : full hs listed = false)
    (h : ∀ w1, Ext w w1 → wpOp P ops Q i (fun a' w' => Ext w1 w' ∧ wpE P ops Q hs fuel (listed.setIfInBounds i true) a' w') a w1) : wpE P ops Q hs (fuel + 1) listed a w := by
  intro w1 hw1
  rw [if_neg (by simp [hf])]
  refine ⟨fun h0 => (by rw [hr] at h0; cases h0), fun j hj => ?_⟩
  rw [hr] at hj
  have : j = i := by simpa using hj
  subst this
  exact h w1 hw1

/-- The rest comes up in one order. -/
def seqL (ops : Array Oper) : List Nat → Array Bool → Bool
  | [], listed => (Region.ready .any ops listed).isEmpty
  | i :: r, listed => decide (Region.ready .any ops listed = [i]) && seqL ops r (listed.setIfInBounds i true)

/-- The operations with these numbers. -/
def pick (l : List Oper) : List Nat → List Oper
  | [] => []
  | i :: r => match l[i]? with | some o => o :: pick l r | none => pick l r

theorem wpAny_of_seqL {l : List Oper} : ∀ (tl : List Nat) (listed : Array Bool) (a : Act) (w : World) (fuel : Nat), tl.length ≤ fuel → seqL l.toArray tl listed = true → wpList P l.toArray Q (pick l tl) a w →
    wpAny P .any l.toArray Q fuel listed a w
  | [], listed, a, w, fuel, _, hB, h => by
    have h0 : Region.ready .any l.toArray listed = [] := by simpa [seqL] using hB
    cases fuel with
    | zero => exact ⟨h0, h⟩
    | succ fuel => exact ⟨fun _ => h, by rw [h0]; simp⟩
  | i :: r, listed, a, w, 0, hf, _, _ => by simp at hf
  | i :: r, listed, a, w, fuel + 1, hf, hB, h => by
    simp only [seqL, Bool.and_eq_true, decide_eq_true_eq] at hB
    refine ⟨fun h0 => (by rw [hB.1] at h0; cases h0), fun j hj => ?_⟩
    rw [hB.1] at hj
    have : j = i := by simpa using hj
    subst this
    have hjr : j ∈ Region.ready .any l.toArray listed := by rw [hB.1]; simp
    obtain ⟨_, o, ho, _⟩ := mem_ready.1 hjr
    have ho' : l[j]? = some o := by simpa using ho
    have hp : pick l (j :: r) = o :: pick l r := by simp [pick, ho']
    rw [hp] at h
    have hw : wpOp P l.toArray Q j (wpList P l.toArray Q (pick l r)) a w := by unfold wpOp; simp only [ho]; exact h
    exact wpOp_mono (fun a' w' h' => wpAny_of_seqL r _ a' w' fuel (by simpa using hf) hB.2 h') hw

/-- THE WALK: a number of hs with 'true': it yields one value from now on; with 'false': it may make what it likes of its own; behind hs: the rest in its order. -/
def flow (P : Program) (l : List Oper) (Q : Exit → Act → World → Prop) (tl : List Oper) : List (Oper × Bool) → Act → World → Prop
  | [], a, w => ∀ w1, Ext w w1 → wpList P l.toArray Q tl a w1
  | (o, true) :: r, a, w => if Region.wanted o (yielded l.toArray a.tmps) = true then ∃ v, (∀ w1, Ext w w1 → o.quietAt P a (Ext w1) w1 v) ∧ flow P l Q tl r (a.put o.dst v) w
      else flow P l Q tl r (a.put o.dst undef) w
  | (o, false) :: r, a, w => ∀ w1, Ext w w1 → if Region.wanted o (yielded l.toArray a.tmps) = true then o.wp P a w1 (fun a' w' => Ext w1 w' ∧ flow P l Q tl r a' w') Q
      else flow P l Q tl r (a.put o.dst undef) w1

/-- The operations of hs, with their marks. -/
def pickF (l : List Oper) : List (Nat × Bool) → List (Oper × Bool)
  | [] => []
  | (i, q) :: r => match l[i]? with | some o => (o, q) :: pickF l r | none => pickF l r

def flowOk (l : List Oper) (hs : List Nat) (tl : List Nat) : List (Nat × Bool) → Array Bool → Bool
  | [], listed => full hs listed && seqL l.toArray tl listed
  | (i, q) :: r, listed => !(listed.getD i true) && hs.contains i && (Region.ready .any l.toArray listed).contains i && (if q then Region.free .any l.toArray listed i else decide (Region.ready .any l.toArray listed = [i])) &&
      flowOk l hs tl r (listed.setIfInBounds i true)

theorem flow_sound {l : List Oper} {hs tl : List Nat} (hk : sunk l.toArray hs = true) (hsel : Region.noSelect l.toArray = true)
    (hQ : ∀ c a d v w, Q (.panic c) (Act.put a d v) w → Q (.panic c) a w) :
    ∀ (fs : List (Nat × Bool)) (listed : Array Bool) (a : Act) (w : World) (fuel : Nat), fs.length + tl.length ≤ fuel → Inv l.toArray listed → flowOk l hs tl fs listed = true →
      flow P l Q (pick l tl) (pickF l fs) a w → wpE P l.toArray Q hs fuel listed a w
  | [], listed, a, w, fuel, hf, _, hB, h => by
    simp only [flowOk, Bool.and_eq_true] at hB
    have H : ∀ w1, Ext w w1 → wpAny P .any l.toArray Q fuel listed a w1 := fun w1 hw1 => wpAny_of_seqL tl listed a w1 fuel (by simpa using hf) hB.2 (h w1 hw1)
    cases fuel with
    | zero => exact H
    | succ fuel => intro w1 hw1; rw [if_pos hB.1]; exact H w1 hw1
  | (i, q) :: r, listed, a, w, 0, hf, _, _, _ => by simp at hf
  | (i, q) :: r, listed, a, w, fuel + 1, hf, hinv, hB, h => by
    simp only [flowOk, Bool.and_eq_true, Bool.not_eq_true'] at hB
    obtain ⟨⟨⟨⟨hun, his⟩, hir⟩, hq⟩, hB'⟩ := hB
    have his' : i ∈ hs := by simpa using his
    have hir' : i ∈ Region.ready .any l.toArray listed := by simpa using hir
    obtain ⟨_, o, ho, _⟩ := mem_ready.1 hir'
    have ho' : l[i]? = some o := by simpa using ho
    have hp : pickF l ((i, q) :: r) = (o, q) :: pickF l r := by simp [pickF, ho']
    rw [hp] at h
    have hle : r.length + tl.length ≤ fuel := by simp at hf; omega
    cases q with
    | true =>
      simp only [if_true] at hq
      have hfr := Region.free_spec ho hq
      simp only [flow] at h
      by_cases hw : Region.wanted o (yielded l.toArray a.tmps) = true
      · rw [if_pos hw] at h
        obtain ⟨v, hv, hn⟩ := h
        exact wpE_first hk ho his' (Region.noSelect_spec hsel) hQ fuel listed a w hinv hfr hir' (.inl ⟨hw, hv⟩) (flow_sound hk hsel hQ r _ _ _ fuel hle (hinv.set hir') hB' hn)
      · rw [if_neg hw] at h
        exact wpE_first hk ho his' (Region.noSelect_spec hsel) hQ fuel listed a w hinv hfr hir' (.inr ⟨by simpa using hw, rfl⟩) (flow_sound hk hsel hQ r _ _ _ fuel hle (hinv.set hir') hB' h)
    | false =>
      simp only [Bool.false_eq_true, if_false, decide_eq_true_eq] at hq
      refine wpE_only hq (full_false his' (getD_unlisted hun)) fun w1 hw1 => ?_
      simp only [flow] at h
      have h1 := h w1 hw1
      unfold wpOp
      simp only [ho]
      by_cases hw : Region.wanted o (yielded l.toArray a.tmps) = true
      · rw [if_pos hw] at h1 ⊢
        exact .inl (Oper.wp_mono (fun a' w' h' => ⟨h'.1, flow_sound hk hsel hQ r _ _ _ fuel hle (hinv.set hir') hB' h'.2⟩) h1)
      · rw [if_neg hw] at h1 ⊢
        exact ⟨Ext.refl _, flow_sound hk hsel hQ r _ _ _ fuel hle (hinv.set hir') hB' h1⟩

def flowAll (l : List Oper) (fs : List (Nat × Bool)) (tl : List Nat) : Bool :=
  sunk l.toArray (fs.map (·.1)) && Region.noSelect l.toArray && decide (fs.length + tl.length ≤ l.length) && flowOk l (fs.map (·.1)) tl fs (Array.replicate l.length false)

/-- **A REGION THAT DRAWS ITS ORDER, BY ONE WALK.** -/
theorem region_flow {id : Nat} {a : Act} {w : World} {l : List Oper} (fs : List (Nat × Bool)) (tl : List Nat) (hm : P.follows .mixedOrders = true)
    (hB : flowAll l fs tl = true) (hQ : ∀ c a d v w, Q (.panic c) (Act.put a d v) w → Q (.panic c) a w)
    (h : ∀ w0, Ext w w0 → flow P l Q (pick l tl) (pickF l fs) a w0) : (Code.region id l.toArray true).wp P Q a w := by
  simp only [flowAll, Bool.and_eq_true, decide_eq_true_eq] at hB
  obtain ⟨⟨⟨hk, hsel⟩, hle⟩, hok⟩ := hB
  refine wp_region_any hm ?_
  have hinv : Inv l.toArray (Array.replicate l.length false) := ⟨by simp, fun j o _ hj => by
    rcases Nat.lt_or_ge j l.length with h' | h'
    · simp [h'] at hj
    · simp [h'] at hj⟩
  have := wpAny_of_E _ _ _ _ (flow_sound (P := P) hk hsel hQ fs (Array.replicate l.length false) a w.drew l.length hle hinv hok (h w.drew (Ext.drew w)))
  simpa using this

/-! ### One step of the walk at a time -/
theorem flow_nil {l tl : List Oper} {a : Act} {w : World} (h : ∀ w1, Ext w w1 → wpList P l.toArray Q tl a w1) : flow P l Q tl [] a w := h

/-- It yields one value. -/
theorem flow_yes {l tl : List Oper} {a : Act} {w : World} {o : Oper} {r : List (Oper × Bool)} (v : Value) (hg : o.guard = none) (hv : ∀ w1, Ext w w1 → o.quietAt P a (Ext w1) w1 v)
    (h : flow P l Q tl r (a.put o.dst v) w) : flow P l Q tl ((o, true) :: r) a w := by
  simp only [flow, Region.wanted, hg, if_true]
  exact ⟨v, hv, h⟩

/-- The same under a guard that says yes. -/
theorem flow_yesG {l tl : List Oper} {a : Act} {w : World} {o : Oper} {r : List (Oper × Bool)} (v : Value) (hg : Region.wanted o (yielded l.toArray a.tmps) = true) (hv : ∀ w1, Ext w w1 → o.quietAt P a (Ext w1) w1 v)
    (h : flow P l Q tl r (a.put o.dst v) w) : flow P l Q tl ((o, true) :: r) a w := by
  simp only [flow, hg, if_true]
  exact ⟨v, hv, h⟩

/-- A guard that says no. -/
theorem flow_no {l tl : List Oper} {a : Act} {w : World} {o : Oper} {q : Bool} {r : List (Oper × Bool)} (hg : Region.wanted o (yielded l.toArray a.tmps) = false)
    (h : ∀ w1, Ext w w1 → flow P l Q tl r (a.put o.dst undef) w1) : flow P l Q tl ((o, q) :: r) a w := by
  cases q with
  | true => simp only [flow, hg, Bool.false_eq_true, if_false]; exact h w (Ext.refl w)
  | false => intro w1 hw1; simp only [hg, Bool.false_eq_true, if_false]; exact h w1 hw1

/-- It makes something of its own. -/
theorem flow_step {l tl : List Oper} {a : Act} {w : World} {o : Oper} {r : List (Oper × Bool)} (hg : o.guard = none)
    (h : ∀ w1, Ext w w1 → ∀ K : Act → World → Prop, (∀ a' w', Ext w1 w' → flow P l Q tl r a' w' → K a' w') → o.wp P a w1 K Q) : flow P l Q tl ((o, false) :: r) a w := by
  intro w1 hw1
  simp only [Region.wanted, hg, if_true]
  exact h w1 hw1 _ fun a' w' h1 h2 => ⟨h1, h2⟩
end
end Go.Proofs.Ytdkblgbmbjagfaa
