/- A law on a region that draws its order: the operations that only read, call what only makes new memory, or lay a new block come in whatever order; behind them the rest comes in one order. It is shown by one walk. Over whatever program. -/
import Derived.WalkKit
import Derived.Deep.QuietTactic
import Derived.Deep.RegionHeld3
namespace Go.Proofs.Ytgkeeibjchjlaaa
set_option linter.unusedSimpArgs false
set_option linter.unusedVariables false
open Go.RowKit

/-- The world w' is w with more in it: what was there has not turned. -/
abbrev Ext (w w' : World) : Prop := Below w.heap.size w w'

theorem Ext.refl (w : World) : Ext w w := Below.refl _ _
theorem Ext.trans {a b c : World} (h : Ext a b) (k : Ext b c) : Ext a c := Below.trans h (Below.mono k h.size)
theorem Ext.drew (w : World) : Ext w w.drew := (Below.refl _ _).drew
theorem Ext.drewN (w : World) (n : Nat) : Ext w (w.drewN n) := ⟨rfl, rfl, rfl, Nat.le_refl _, fun _ _ => rfl⟩
theorem Ext.own {w w' : World} (h : Ext w w') {base : Nat} {e : TypeId} {size : Nat} {v : Value} {n : Nat} {xs : List Value} (ho : w.ownsRow base e size v n xs) : w'.ownsRow base e size v n xs :=
  ho.kept (row := none) ⟨h.os, h.tape, h.output, h.size, fun k hk _ => h.block k hk⟩ (Decidable.em _)
theorem Ext.al {w W : World} (h : Ext w W) (o : Obj) : Ext w (W.alloc o) := Below.alloc h h.size o
theorem Ext.dr {w W : World} (h : Ext w W) : Ext w W.drew := Below.drew h
theorem Ext.drN {w W : World} (h : Ext w W) (n : Nat) : Ext w (W.drewN n) := ⟨h.os, h.tape, h.output, h.size, h.block⟩
theorem Ext.set {w W : World} (h : Ext w W) {b o : Nat} (hb : w.heap.size ≤ b) (u : Value) : Ext w (W.setCell ⟨b, o, none⟩ u) := Below.setCell h hb u
theorem Ext.alloc (w : World) (o : Obj) : Ext w (w.alloc o) := (Below.refl _ _).alloc (Nat.le_refl _) _

/-- T: what an operation that is carried out may turn. N: what may come between two of them. -/
structure Rels (T N : World → World → Prop) : Prop where
  tr : ∀ w, T w w
  tt : ∀ {a b c : World}, T a b → T b c → T a c
  nr : ∀ w, N w w
  nt : ∀ {a b c : World}, N a b → N b c → N a c
  nT : ∀ {a b : World}, N a b → T a b

theorem Rels.ext : Rels Ext Ext := ⟨Ext.refl, Ext.trans, Ext.refl, Ext.trans, id⟩

/-- Nothing that was there turns, but for block row. -/
def Gr (row : Option Nat) (w w' : World) : Prop := w.grownBy w' row

theorem Gr.refl (row : Option Nat) (w : World) : Gr row w w := ⟨rfl, rfl, rfl, Nat.le_refl _, fun _ _ _ => rfl⟩
theorem Gr.trans {row : Option Nat} {a b c : World} (h : Gr row a b) (k : Gr row b c) : Gr row a c :=
  ⟨k.os.trans h.os, k.tape.trans h.tape, k.output.trans h.output, Nat.le_trans h.size k.size, fun i hi hn => (k.block i (Nat.lt_of_lt_of_le hi h.size) hn).trans (h.block i hi hn)⟩
theorem Ext.gr {w w' : World} (h : Ext w w') (row : Option Nat) : Gr row w w' := ⟨h.os, h.tape, h.output, h.size, fun k hk _ => h.block k hk⟩
theorem Gr.al {row : Option Nat} {w W : World} (h : Gr row w W) (o : Obj) : Gr row w (W.alloc o) := h.trans ((Ext.alloc W o).gr row)
theorem Gr.dr {row : Option Nat} {w W : World} (h : Gr row w W) : Gr row w W.drew := h.trans ((Ext.drew W).gr row)
theorem Gr.set {b o : Nat} {w W : World} (h : Gr (some b) w W) (u : Value) : Gr (some b) w (W.setCell ⟨b, o, none⟩ u) :=
  h.trans ⟨rfl, rfl, rfl, by simp [World.setCell], fun k _ hn => Below.heap_setCell _ _ _ _ (fun e => hn (by rw [e]))⟩
theorem Gr.setNew {row : Option Nat} {b o : Nat} {w W : World} (h : Gr row w W) (hb : w.heap.size ≤ b) (u : Value) : Gr row w (W.setCell ⟨b, o, none⟩ u) :=
  ⟨h.os, h.tape, h.output, by simpa [World.setCell] using h.size, fun k hk hn => (Below.heap_setCell _ _ _ _ (by show k ≠ b; omega)).trans (h.block k hk hn)⟩
theorem Gr.cell_some {row : Option Nat} {w w' : World} (h : Gr row w w') {a : Addr} {v : Value} (hc : w.cell? a = some v) (hn : some a.block ≠ row) : w'.cell? a = some v :=
  (World.cell?_of_block (w := w) (h.block a.block (World.block_lt_of_cell? w a hc) hn)).trans hc

/-- Seen from W all the while, but for block row. -/
def Held (W : World) (row : Option Nat) (w w' : World) : Prop := Gr row W w → Gr row W w'

theorem Rels.gr (row : Option Nat) : Rels (Gr row) (Gr row) := ⟨Gr.refl row, Gr.trans, Gr.refl row, Gr.trans, id⟩
theorem Rels.held (W : World) (row : Option Nat) : Rels (Held W row) Eq := ⟨fun _ h => h, fun h k x => k (h x), fun _ => rfl, fun h k => h.trans k, fun h x => h ▸ x⟩

section
variable {P : Program} {ops : Array Oper} {Q : Exit → Act → World → Prop} {T N : World → World → Prop}

/-- Nothing that operation o looks at parts a from a'. -/
def Alike (ops : Array Oper) (o : Oper) (a a' : Act) : Prop :=
  execOp a'.eval o = execOp a.eval o ∧ Region.wanted o (yielded ops a'.tmps) = Region.wanted o (yielded ops a.tmps)

theorem wpOp_commute {j : Nat} {oi oj : Oper} {v : Value} (hj : ops[j]? = some oj) (hap : oi.apart ops oj = true)
    (hsi : ∀ cs b, oi.op ≠ .select cs b) (hsj : ∀ cs b, oj.op ≠ .select cs b)
    (hQ : ∀ c a d v w, Q (.panic c) (Act.put a d v) w → Q (.panic c) a w) {K : Act → World → Prop} {a : Act} {w : World}
    (h : wpOp P ops Q j K (a.put oi.dst v) w) :
    wpOp P ops Q j (fun a' w' => Alike ops oi a a' ∧ K (a'.put oi.dst v) w') a w := by
  obtain ⟨h1, h2, h3⟩ := Oper.apart_spec hap
  have same : ∀ u, Alike ops oi a (a.put oj.dst u) := fun u => ⟨execOp_put oi hsi a oj.dst u h3, wanted_put oi a oj.dst u h3⟩
  have sameD : ∀ d u, Alike ops oi a (({ a with defers := d :: a.defers } : Act).put oj.dst u) := fun d u =>
    ⟨execOp_put oi hsi _ oj.dst u h3, wanted_put oi _ oj.dst u h3⟩
  unfold wpOp at h ⊢
  simp only [hj] at h ⊢
  rw [wanted_put oj a oi.dst v h1] at h
  by_cases hw : Region.wanted oj (yielded ops a.tmps) = true
  · rw [if_pos hw] at h ⊢
    rcases h with h | ⟨ha, hl⟩
    · left
      unfold Oper.wp at h ⊢
      rw [execOp_put oj hsj a oi.dst v h1] at h
      cases hr : (execOp a.eval oj).run P w with
      | halt x w1 =>
        rw [hr] at h
        cases x <;> simp only [Oper.upon] at h ⊢
        exact hQ _ _ _ _ _ h
      | ok n w1 =>
        rw [hr] at h
        cases n <;> simp only [Oper.upon] at h ⊢
        case value u => exact ⟨same u, by rw [← Act.put_comm a v u h2]; exact h⟩
        case skip => exact ⟨same _, by rw [← Act.put_comm a v undef h2]; exact h⟩
        case defer d => exact ⟨sameD d _, by rw [← Act.put_comm _ v undef h2, ← Act.put_defers]; exact h⟩
        case row r args => exact Rows.mono h fun u w2 he => ⟨same u, by rw [← Act.put_comm a v u h2]; exact he⟩
        case enter f args =>
          refine Calls.mono h fun e w2 he => ?_
          cases e with
          | returned u => exact ⟨same u, by rw [← Act.put_comm a v u h2]; exact he⟩
          | panicked c => exact hQ _ _ _ _ _ he
          | outgrown => exact he
    · exact .inr ⟨by unfold Oper.asks at ha ⊢; rwa [execOp_put oj hsj a oi.dst v h1] at ha, hl⟩
  · rw [if_neg hw] at h ⊢
    exact ⟨same _, by rw [← Act.put_comm a v undef h2]; exact h⟩

/-- All of hs have come up. -/
def full (hs : List Nat) (listed : Array Bool) : Bool := hs.all fun i => listed.getD i false

/-- In whatever order: as long as one of hs has not come up, each operation turns no more than T lets; between two of them whatever N lets may come. -/
def wpE (P : Program) (ops : Array Oper) (Q : Exit → Act → World → Prop) (T N : World → World → Prop) (hs : List Nat) : Nat → Array Bool → Act → World → Prop
  | 0, listed, a, w => ∀ w1, N w w1 → wpAny P .any ops Q 0 listed a w1
  | fuel + 1, listed, a, w => ∀ w1, N w w1 →
      if full hs listed = true then wpAny P .any ops Q (fuel + 1) listed a w1
      else (Region.ready .any ops listed = [] → Q .normal a w1) ∧
        ∀ j ∈ Region.ready .any ops listed, wpOp P ops Q j (fun a' w' => T w1 w' ∧ wpE P ops Q T N hs fuel (listed.setIfInBounds j true) a' w') a w1

theorem wpE_mono (R : Rels T N) {hs : List Nat} {fuel : Nat} {listed : Array Bool} {a : Act} {w w1 : World} (hw : N w w1) (h : wpE P ops Q T N hs fuel listed a w) : wpE P ops Q T N hs fuel listed a w1 := by
  cases fuel with
  | zero => exact fun w2 h2 => h w2 (R.nt hw h2)
  | succ fuel => exact fun w2 h2 => h w2 (R.nt hw h2)

theorem wpAny_of_E (R : Rels T N) {hs : List Nat} : ∀ (fuel : Nat) (listed : Array Bool) (a : Act) (w : World), wpE P ops Q T N hs fuel listed a w → wpAny P .any ops Q fuel listed a w
  | 0, _, _, w, h => h w (R.nr w)
  | fuel + 1, listed, a, w, h => by
    have h1 := h w (R.nr w)
    split at h1
    · exact h1
    · exact ⟨h1.1, fun j hj => wpOp_mono (fun a' w' h' => wpAny_of_E R fuel _ a' w' h'.2) (h1.2 j hj)⟩

/-- From w on operation o always yields v, and turns no more than N lets. -/
def YieldsE (P : Program) (ops : Array Oper) (T N : World → World → Prop) (o : Oper) (v : Value) (a : Act) (w : World) : Prop :=
  (Region.wanted o (yielded ops a.tmps) = true ∧ ∀ w1, T w w1 → o.quietAt P a (N w1) w1 v) ∨ (Region.wanted o (yielded ops a.tmps) = false ∧ v = undef)

theorem YieldsE.mono (R : Rels T N) {o : Oper} {v : Value} {a : Act} {w w1 : World} (h : YieldsE P ops T N o v a w) (hw : T w w1) : YieldsE P ops T N o v a w1 :=
  h.imp (fun ⟨h1, h2⟩ => ⟨h1, fun w2 hw2 => h2 w2 (R.tt hw hw2)⟩) id

theorem YieldsE.alike {o : Oper} {v : Value} {a a' : Act} {w : World} (h : YieldsE P ops T N o v a w) (hs : Alike ops o a a') : YieldsE P ops T N o v a' w := by
  unfold YieldsE Oper.quietAt at *
  rw [hs.1, hs.2]
  exact h

theorem YieldsE.wpOp (R : Rels T N) {i : Nat} {o : Oper} {v : Value} {a : Act} {w : World} (hi : ops[i]? = some o) (h : YieldsE P ops T N o v a w) {K : Act → World → Prop}
    (hK : ∀ w', N w w' → K (a.put o.dst v) w') : wpOp P ops Q i K a w := by
  unfold Go.wpOp
  simp only [hi]
  rcases h with ⟨hw, h⟩ | ⟨hw, rfl⟩
  · rw [if_pos hw]
    left
    have h1 := h w (R.tr w)
    unfold Oper.quietAt at h1
    unfold Oper.wp
    cases hr : (execOp a.eval o).run P w with
    | halt x w1 => rw [hr] at h1; exact h1.elim
    | ok n w1 =>
      rw [hr] at h1
      cases n <;> simp only [Oper.quietUpon] at h1 <;> simp only [Oper.upon]
      case value u => obtain ⟨rfl, rfl⟩ := h1; exact hK _ (R.nr _)
      case skip => obtain ⟨rfl, rfl⟩ := h1; exact hK _ (R.nr _)
      case enter f args =>
        obtain ⟨rfl, hc⟩ := h1
        exact hc.mono fun e w2 ⟨he, h2⟩ => by subst he; exact hK _ h2
  · rw [if_neg (by simp [hw])]
    exact hK _ (R.nr _)

/-- What has come up has come up behind all that it waits for. -/
def Inv (ops : Array Oper) (listed : Array Bool) : Prop :=
  listed.size = ops.size ∧ ∀ j o, ops[j]? = some o → listed.getD j false = true → ∀ e ∈ o.after, Region.binds .any e = true → listed.getD e.on false = true

theorem getD_set_self {listed : Array Bool} {i : Nat} (h : i < listed.size) (d : Bool) : (listed.setIfInBounds i true).getD i d = true := by
  simp [h]

theorem lt_of_ready {j : Nat} {listed : Array Bool} (hj : j ∈ Region.ready .any ops listed) : j < ops.size := by
  obtain ⟨_, o, ho, _⟩ := mem_ready.1 hj
  exact (Array.getElem?_eq_some_iff.1 ho).1

theorem Inv.set {listed : Array Bool} (h : Inv ops listed) {j : Nat} (hj : j ∈ Region.ready .any ops listed) : Inv ops (listed.setIfInBounds j true) := by
  refine ⟨by simp [h.1], fun k o ho hk e he hb => ?_⟩
  by_cases hkj : k = j
  · subst hkj
    obtain ⟨_, o', ho', hall⟩ := mem_ready.1 hj
    rw [ho] at ho'
    cases ho'
    exact getD_set_true (hall e he hb)
  · rw [getD_set_ne false (Ne.symm hkj)] at hk
    exact getD_set_true (h.2 k o ho hk e he hb)

/-- k waits for i itself. -/
def edgeB (ops : Array Oper) (k i : Nat) : Bool := ((ops[k]?).map fun o => o.after.any fun e => Region.binds .any e && e.on == i).getD false

/-- t waits for all of these: each is waited for by t itself, or by one of those that were seen before it. -/
def sunkB (ops : Array Oper) (t : Nat) : List Nat → List Nat → Bool
  | [], _ => true
  | i :: r, done => (edgeB ops t i || done.any fun k => edgeB ops k i) && sunkB ops t r (i :: done)

/-- What is not there yet leaves something undone that t itself waits for. -/
def Waits (ops : Array Oper) (t i : Nat) : Prop := ∀ listed : Array Bool, Inv ops listed → listed.getD i false = false → ∃ o, ops[t]? = some o ∧ ∃ e ∈ o.after, Region.binds .any e = true ∧ listed.getD e.on false = false

theorem edge_spec {k i : Nat} (h : edgeB ops k i = true) : ∃ o, ops[k]? = some o ∧ ∃ e ∈ o.after, Region.binds .any e = true ∧ e.on = i := by
  unfold edgeB at h
  cases ho : ops[k]? with
  | none => simp [ho] at h
  | some o =>
    simp only [ho, Option.map_some, Option.getD_some, Array.any_eq_true', Bool.and_eq_true, beq_iff_eq] at h
    obtain ⟨e, he, hb, hi⟩ := h
    exact ⟨o, rfl, e, he, hb, hi⟩

theorem sunkB_spec {t : Nat} : ∀ (todo done : List Nat), (∀ k ∈ done, Waits ops t k) → sunkB ops t todo done = true → ∀ i ∈ todo, Waits ops t i
  | [], _, _, _, i, hi => by cases hi
  | j :: r, done, hd, h, i, hi => by
    simp only [sunkB, Bool.and_eq_true, Bool.or_eq_true, List.any_eq_true] at h
    have hj : Waits ops t j := by
      intro listed hinv hl
      rcases h.1 with h1 | ⟨k, hk, h1⟩
      · obtain ⟨o, ho, e, he, hb, rfl⟩ := edge_spec h1
        exact ⟨o, ho, e, he, hb, hl⟩
      · obtain ⟨o, ho, e, he, hb, rfl⟩ := edge_spec h1
        refine hd k hk listed hinv ?_
        cases hkl : listed.getD k false with
        | false => rfl
        | true => exact absurd (hinv.2 k o ho hkl e he hb) (by rw [hl]; simp)
    rcases List.mem_cons.1 hi with rfl | hi
    · exact hj
    · exact sunkB_spec r (j :: done) (fun k hk => (List.mem_cons.1 hk).elim (fun e => e ▸ hj) (hd k)) h.2 i hi

/-- Every operation that is not of hs waits for all of hs. -/
def sunk (ops : Array Oper) (hs : List Nat) : Bool := (List.range ops.size).all fun t => hs.contains t || sunkB ops t hs.reverse []

theorem safe_of_ready {hs : List Nat} (hk : sunk ops hs = true) {listed : Array Bool} (h : Inv ops listed) {i j : Nat} (hi : i ∈ hs) (hl : listed.getD i false = false)
    (hj : j ∈ Region.ready .any ops listed) : j ∈ hs := by
  have h1 := lt_of_ready hj
  simp only [sunk, List.all_eq_true, List.mem_range, Bool.or_eq_true] at hk
  rcases hk j h1 with h2 | h2
  · simpa using h2
  · obtain ⟨o, ho, e, he, hb, hle⟩ := sunkB_spec _ _ (fun k hk => by cases hk) h2 i (List.mem_reverse.2 hi) listed h hl
    obtain ⟨_, o', ho', hall⟩ := mem_ready.1 hj
    rw [ho] at ho'
    cases ho'
    exact absurd (hall e he hb) (by rw [hle]; simp)

theorem full_false {hs : List Nat} {listed : Array Bool} {i : Nat} (hi : i ∈ hs) (hl : listed.getD i false = false) : full hs listed = false := by
  cases h : full hs listed with
  | false => rfl
  | true => simp only [full, List.all_eq_true] at h; rw [h i hi] at hl; cases hl

theorem getD_unlisted {listed : Array Bool} {i : Nat} (h : listed.getD i true = false) : listed.getD i false = false := by
  rcases Nat.lt_or_ge i listed.size with h' | h'
  · simp [h'] at h ⊢; exact h
  · simp [Array.getElem?_eq_none h'] at h

/-- An operation of hs that may come up, is apart from the others, and yields one value from now on, may be taken first. -/
theorem wpE_first (R : Rels T N) {hs : List Nat} (hk : sunk ops hs = true) {i : Nat} {oi : Oper} {v : Value} (hi : ops[i]? = some oi) (his : i ∈ hs) (hsel : ∀ (j : Nat) (o : Oper) cs b, ops[j]? = some o → o.op ≠ .select cs b)
    (hQ : ∀ c a d v w, Q (.panic c) (Act.put a d v) w → Q (.panic c) a w) :
    ∀ (fuel : Nat) (listed : Array Bool) (a : Act) (w : World), Inv ops listed →
      (∀ j oj, ops[j]? = some oj → j ≠ i → listed.getD j true = false → (∀ e ∈ oj.after, Region.binds .any e = true → e.on ≠ i) → oi.apart ops oj = true) →
      i ∈ Region.ready .any ops listed → YieldsE P ops T N oi v a w →
      wpE P ops Q T N hs fuel (listed.setIfInBounds i true) (a.put oi.dst v) w → wpE P ops Q T N hs (fuel + 1) listed a w := by
  intro fuel
  induction fuel with
  | zero =>
    intro listed a w hinv _ hr hy H w1 hw1
    have hun := getD_unlisted (mem_ready.1 hr).1
    rw [if_neg (by rw [full_false his hun]; simp)]
    refine ⟨fun h => (by rw [h] at hr; cases hr), fun j hj => ?_⟩
    by_cases hji : j = i
    · subst hji
      exact (hy.mono R (R.nT hw1)).wpOp R hi fun w' hw' => ⟨R.nT hw', wpE_mono R (R.nt hw1 hw') H⟩
    · have h1 := (H w (R.nr w)).1
      have h2 := ready_mono hj hji
      rw [h1] at h2
      cases h2
  | succ fuel ih =>
    intro listed a w hinv hfree hr hy H w1 hw1
    have hun := getD_unlisted (mem_ready.1 hr).1
    rw [if_neg (by rw [full_false his hun]; simp)]
    refine ⟨fun h => (by rw [h] at hr; cases hr), fun j hj => ?_⟩
    by_cases hji : j = i
    · subst hji
      exact (hy.mono R (R.nT hw1)).wpOp R hi fun w' hw' => ⟨R.nT hw', wpE_mono R (R.nt hw1 hw') H⟩
    · have hjs := safe_of_ready hk hinv his hun hj
      obtain ⟨hjun, oj, hoj, hall⟩ := mem_ready.1 hj
      have hjun' := getD_unlisted hjun
      have hnot : ∀ e ∈ oj.after, Region.binds .any e = true → e.on ≠ i := fun e he hb heq => by
        have := hall e he hb
        rw [heq, hun] at this
        cases this
      have h1 := H w1 hw1
      rw [if_neg (by rw [full_false hjs (by rw [getD_set_ne false (Ne.symm hji)]; exact hjun')]; simp)] at h1
      have h2 := wpOp_commute (oi := oi) (v := v) hoj (hfree j oj hoj hji hjun hnot) (fun cs b => hsel i oi cs b hi) (fun cs b => hsel j oj cs b hoj) hQ (h1.2 j (ready_mono hj hji))
      have hfree' : ∀ k ok, ops[k]? = some ok → k ≠ i → (listed.setIfInBounds j true).getD k true = false →
          (∀ e ∈ ok.after, Region.binds .any e = true → e.on ≠ i) → oi.apart ops ok = true := fun k ok hko hki hkun hno => by
        refine hfree k ok hko hki ?_ hno
        by_cases hjk : j = k
        · subst hjk; exact hjun
        · rw [getD_set_ne true hjk] at hkun; exact hkun
      refine wpOp_mono (fun a' w' h3 => ⟨h3.2.1, ih (listed.setIfInBounds j true) a' w' (hinv.set hj) hfree' (ready_mono hr (Ne.symm hji)) (((hy.mono R (R.nT hw1)).mono R h3.2.1).alike h3.1) ?_⟩) h2
      rw [Array.setIfInBounds_comm _ _ hji]
      exact h3.2.2

/-- The one that may come up comes up. -/
theorem wpE_only {hs : List Nat} {fuel : Nat} {listed : Array Bool} {a : Act} {w : World} {i : Nat} (hr : Region.ready .any ops listed = [i]) (hf : full hs listed = false)
    (h : ∀ w1, N w w1 → wpOp P ops Q i (fun a' w' => T w1 w' ∧ wpE P ops Q T N hs fuel (listed.setIfInBounds i true) a' w') a w1) : wpE P ops Q T N hs (fuel + 1) listed a w := by
  intro w1 hw1
  rw [if_neg (by simp [hf])]
  refine ⟨fun h0 => (by rw [hr] at h0; cases h0), fun j hj => ?_⟩
  rw [hr] at hj
  have : j = i := by simpa using hj
  subst this
  exact h w1 hw1

/-- The rest comes up in one order. -/
def seqL (ops : Array Oper) : List Nat → Array Bool → Bool
  | [], listed => (Region.ready .any ops listed).isEmpty
  | i :: r, listed => decide (Region.ready .any ops listed = [i]) && seqL ops r (listed.setIfInBounds i true)

/-- The operations with these numbers. -/
def pick (l : List Oper) : List Nat → List Oper
  | [] => []
  | i :: r => match l[i]? with | some o => o :: pick l r | none => pick l r

theorem wpAny_of_seqL {l : List Oper} : ∀ (tl : List Nat) (listed : Array Bool) (a : Act) (w : World) (fuel : Nat), tl.length ≤ fuel → seqL l.toArray tl listed = true → wpList P l.toArray Q (pick l tl) a w →
    wpAny P .any l.toArray Q fuel listed a w
  | [], listed, a, w, fuel, _, hB, h => by
    have h0 : Region.ready .any l.toArray listed = [] := by simpa [seqL] using hB
    cases fuel with
    | zero => exact ⟨h0, h⟩
    | succ fuel => exact ⟨fun _ => h, by rw [h0]; simp⟩
  | i :: r, listed, a, w, 0, hf, _, _ => by simp at hf
  | i :: r, listed, a, w, fuel + 1, hf, hB, h => by
    simp only [seqL, Bool.and_eq_true, decide_eq_true_eq] at hB
    refine ⟨fun h0 => (by rw [hB.1] at h0; cases h0), fun j hj => ?_⟩
    rw [hB.1] at hj
    have : j = i := by simpa using hj
    subst this
    have hjr : j ∈ Region.ready .any l.toArray listed := by rw [hB.1]; simp
    obtain ⟨_, o, ho, _⟩ := mem_ready.1 hjr
    have ho' : l[j]? = some o := by simpa using ho
    have hp : pick l (j :: r) = o :: pick l r := by simp [pick, ho']
    rw [hp] at h
    have hw : wpOp P l.toArray Q j (wpList P l.toArray Q (pick l r)) a w := by unfold wpOp; simp only [ho]; exact h
    exact wpOp_mono (fun a' w' h' => wpAny_of_seqL r _ a' w' fuel (by simpa using hf) hB.2 h') hw

/-- THE WALK: a number of hs with 'true': it yields one value from now on; with 'false': it may make what it likes of its own; behind hs: the rest in its order. -/
def flow (T N : World → World → Prop) (P : Program) (l : List Oper) (Q : Exit → Act → World → Prop) (tl : List Oper) : List (Oper × Bool) → Act → World → Prop
  | [], a, w => ∀ w1, N w w1 → wpList P l.toArray Q tl a w1
  | (o, true) :: r, a, w => if Region.wanted o (yielded l.toArray a.tmps) = true then ∃ v, (∀ w1, T w w1 → o.quietAt P a (N w1) w1 v) ∧ flow T N P l Q tl r (a.put o.dst v) w
      else flow T N P l Q tl r (a.put o.dst undef) w
  | (o, false) :: r, a, w => ∀ w1, N w w1 → if Region.wanted o (yielded l.toArray a.tmps) = true then o.wp P a w1 (fun a' w' => T w1 w' ∧ flow T N P l Q tl r a' w') Q
      else flow T N P l Q tl r (a.put o.dst undef) w1

/-- The operations of hs, with their marks. -/
def pickF (l : List Oper) : List (Nat × Bool) → List (Oper × Bool)
  | [] => []
  | (i, q) :: r => match l[i]? with | some o => (o, q) :: pickF l r | none => pickF l r

def flowOk (l : List Oper) (hs : List Nat) (tl : List Nat) : List (Nat × Bool) → Array Bool → Bool
  | [], listed => full hs listed && seqL l.toArray tl listed
  | (i, q) :: r, listed => !(listed.getD i true) && hs.contains i && (Region.ready .any l.toArray listed).contains i && (if q then Region.free .any l.toArray listed i else decide (Region.ready .any l.toArray listed = [i])) &&
      flowOk l hs tl r (listed.setIfInBounds i true)

theorem flow_sound (R : Rels T N) {l : List Oper} {hs tl : List Nat} (hk : sunk l.toArray hs = true) (hsel : Region.noSelect l.toArray = true)
    (hQ : ∀ c a d v w, Q (.panic c) (Act.put a d v) w → Q (.panic c) a w) :
    ∀ (fs : List (Nat × Bool)) (listed : Array Bool) (a : Act) (w : World) (fuel : Nat), fs.length + tl.length ≤ fuel → Inv l.toArray listed → flowOk l hs tl fs listed = true →
      flow T N P l Q (pick l tl) (pickF l fs) a w → wpE P l.toArray Q T N hs fuel listed a w
  | [], listed, a, w, fuel, hf, _, hB, h => by
    simp only [flowOk, Bool.and_eq_true] at hB
    have H : ∀ w1, N w w1 → wpAny P .any l.toArray Q fuel listed a w1 := fun w1 hw1 => wpAny_of_seqL tl listed a w1 fuel (by simpa using hf) hB.2 (h w1 hw1)
    cases fuel with
    | zero => exact H
    | succ fuel => intro w1 hw1; rw [if_pos hB.1]; exact H w1 hw1
  | (i, q) :: r, listed, a, w, 0, hf, _, _, _ => by simp at hf
  | (i, q) :: r, listed, a, w, fuel + 1, hf, hinv, hB, h => by
    simp only [flowOk, Bool.and_eq_true, Bool.not_eq_true'] at hB
    obtain ⟨⟨⟨⟨hun, his⟩, hir⟩, hq⟩, hB'⟩ := hB
    have his' : i ∈ hs := by simpa using his
    have hir' : i ∈ Region.ready .any l.toArray listed := by simpa using hir
    obtain ⟨_, o, ho, _⟩ := mem_ready.1 hir'
    have ho' : l[i]? = some o := by simpa using ho
    have hp : pickF l ((i, q) :: r) = (o, q) :: pickF l r := by simp [pickF, ho']
    rw [hp] at h
    have hle : r.length + tl.length ≤ fuel := by simp at hf; omega
    cases q with
    | true =>
      simp only [if_true] at hq
      have hfr := Region.free_spec ho hq
      simp only [flow] at h
      by_cases hw : Region.wanted o (yielded l.toArray a.tmps) = true
      · rw [if_pos hw] at h
        obtain ⟨v, hv, hn⟩ := h
        exact wpE_first R hk ho his' (Region.noSelect_spec hsel) hQ fuel listed a w hinv hfr hir' (.inl ⟨hw, hv⟩) (flow_sound R hk hsel hQ r _ _ _ fuel hle (hinv.set hir') hB' hn)
      · rw [if_neg hw] at h
        exact wpE_first R hk ho his' (Region.noSelect_spec hsel) hQ fuel listed a w hinv hfr hir' (.inr ⟨by simpa using hw, rfl⟩) (flow_sound R hk hsel hQ r _ _ _ fuel hle (hinv.set hir') hB' h)
    | false =>
      simp only [Bool.false_eq_true, if_false, decide_eq_true_eq] at hq
      refine wpE_only hq (full_false his' (getD_unlisted hun)) fun w1 hw1 => ?_
      simp only [flow] at h
      have h1 := h w1 hw1
      unfold wpOp
      simp only [ho]
      by_cases hw : Region.wanted o (yielded l.toArray a.tmps) = true
      · rw [if_pos hw] at h1 ⊢
        exact .inl (Oper.wp_mono (fun a' w' h' => ⟨h'.1, flow_sound R hk hsel hQ r _ _ _ fuel hle (hinv.set hir') hB' h'.2⟩) h1)
      · rw [if_neg hw] at h1 ⊢
        exact ⟨R.tr _, flow_sound R hk hsel hQ r _ _ _ fuel hle (hinv.set hir') hB' h1⟩

def flowAll (l : List Oper) (fs : List (Nat × Bool)) (tl : List Nat) : Bool :=
  sunk l.toArray (fs.map (·.1)) && Region.noSelect l.toArray && decide (fs.length + tl.length ≤ l.length) && flowOk l (fs.map (·.1)) tl fs (Array.replicate l.length false)

/-- **A REGION THAT DRAWS ITS ORDER, BY ONE WALK.** -/
theorem region_flowR (R : Rels T N) {id : Nat} {a : Act} {w : World} {l : List Oper} (fs : List (Nat × Bool)) (tl : List Nat) (hm : P.follows .mixedOrders = true)
    (hB : flowAll l fs tl = true) (hQ : ∀ c a d v w, Q (.panic c) (Act.put a d v) w → Q (.panic c) a w)
    (h : flow T N P l Q (pick l tl) (pickF l fs) a w.drew) : (Code.region id l.toArray true).wp P Q a w := by
  simp only [flowAll, Bool.and_eq_true, decide_eq_true_eq] at hB
  obtain ⟨⟨⟨hk, hsel⟩, hle⟩, hok⟩ := hB
  refine wp_region_any hm ?_
  have hinv : Inv l.toArray (Array.replicate l.length false) := ⟨by simp, fun j o _ hj => by
    rcases Nat.lt_or_ge j l.length with h' | h'
    · simp [h'] at hj
    · simp [h'] at hj⟩
  have := wpAny_of_E R _ _ _ _ (flow_sound R (P := P) hk hsel hQ fs (Array.replicate l.length false) a w.drew l.length hle hinv hok h)
  simpa using this

/-- The same, where the operations turn nothing that was there, and may be any calls. -/
theorem region_flow {id : Nat} {a : Act} {w : World} {l : List Oper} (fs : List (Nat × Bool)) (tl : List Nat) (hm : P.follows .mixedOrders = true)
    (hB : flowAll l fs tl = true) (hQ : ∀ c a d v w, Q (.panic c) (Act.put a d v) w → Q (.panic c) a w)
    (h : ∀ w0, Ext w w0 → flow Ext Ext P l Q (pick l tl) (pickF l fs) a w0) : (Code.region id l.toArray true).wp P Q a w :=
  region_flowR Rels.ext fs tl hm hB hQ (h _ (Ext.drew w))

/-- The same, where block row may be written too. -/
theorem region_flowGr (row : Option Nat) {id : Nat} {a : Act} {w : World} {l : List Oper} (fs : List (Nat × Bool)) (tl : List Nat) (hm : P.follows .mixedOrders = true)
    (hB : flowAll l fs tl = true) (hQ : ∀ c a d v w, Q (.panic c) (Act.put a d v) w → Q (.panic c) a w)
    (h : ∀ w0, Ext w w0 → flow (Gr row) (Gr row) P l Q (pick l tl) (pickF l fs) a w0) : (Code.region id l.toArray true).wp P Q a w :=
  region_flowR (Rels.gr row) fs tl hm hB hQ (h _ (Ext.drew w))

/-- The same, where no call comes first: each operation that makes or writes something meets the very world that the one before it left. -/
theorem region_flowHeld (row : Option Nat) {id : Nat} {a : Act} {w : World} {l : List Oper} (fs : List (Nat × Bool)) (tl : List Nat) (hm : P.follows .mixedOrders = true)
    (hB : flowAll l fs tl = true) (hQ : ∀ c a d v w, Q (.panic c) (Act.put a d v) w → Q (.panic c) a w)
    (h : flow (Held w.drew row) Eq P l Q (pick l tl) (pickF l fs) a w.drew) : (Code.region id l.toArray true).wp P Q a w :=
  region_flowR (Rels.held w.drew row) fs tl hm hB hQ h

/-! ### One step of the walk at a time -/
theorem flow_nil {l tl : List Oper} {a : Act} {w : World} (h : ∀ w1, N w w1 → wpList P l.toArray Q tl a w1) : flow T N P l Q tl [] a w := h

/-- It yields one value. -/
theorem flow_yes {l tl : List Oper} {a : Act} {w : World} {o : Oper} {r : List (Oper × Bool)} (v : Value) (hg : o.guard = none) (hv : ∀ w1, T w w1 → o.quietAt P a (N w1) w1 v)
    (h : flow T N P l Q tl r (a.put o.dst v) w) : flow T N P l Q tl ((o, true) :: r) a w := by
  simp only [flow, Region.wanted, hg, if_true]
  exact ⟨v, hv, h⟩

/-- The same under a guard that says yes. -/
theorem flow_yesG {l tl : List Oper} {a : Act} {w : World} {o : Oper} {r : List (Oper × Bool)} (v : Value) (hg : Region.wanted o (yielded l.toArray a.tmps) = true) (hv : ∀ w1, T w w1 → o.quietAt P a (N w1) w1 v)
    (h : flow T N P l Q tl r (a.put o.dst v) w) : flow T N P l Q tl ((o, true) :: r) a w := by
  simp only [flow, hg, if_true]
  exact ⟨v, hv, h⟩

/-- A guard that says no. -/
theorem flow_no {l tl : List Oper} {a : Act} {w : World} {o : Oper} {q : Bool} {r : List (Oper × Bool)} (hg : Region.wanted o (yielded l.toArray a.tmps) = false)
    (hn : N w w) (h : ∀ w1, N w w1 → flow T N P l Q tl r (a.put o.dst undef) w1) : flow T N P l Q tl ((o, q) :: r) a w := by
  cases q with
  | true => simp only [flow, hg, Bool.false_eq_true, if_false]; exact h w hn
  | false => intro w1 hw1; simp only [hg, Bool.false_eq_true, if_false]; exact h w1 hw1

/-- It makes something of its own. -/
theorem flow_step {l tl : List Oper} {a : Act} {w : World} {o : Oper} {r : List (Oper × Bool)} (hg : o.guard = none)
    (h : ∀ w1, N w w1 → ∀ K : Act → World → Prop, (∀ a' w', T w1 w' → flow T N P l Q tl r a' w' → K a' w') → o.wp P a w1 K Q) : flow T N P l Q tl ((o, false) :: r) a w := by
  intro w1 hw1
  simp only [Region.wanted, hg, if_true]
  exact h w1 hw1 _ fun a' w' h1 h2 => ⟨h1, h2⟩

/-! ### Two that make something of their own may come up next: one walk for each order -/

/-- The walk up to a place, and what is asked there. -/
def flowK (T N : World → World → Prop) (P : Program) (l : List Oper) (Q : Exit → Act → World → Prop) (C : Act → World → Prop) : List (Oper × Bool) → Act → World → Prop
  | [], a, w => C a w
  | (o, true) :: r, a, w => if Region.wanted o (yielded l.toArray a.tmps) = true then ∃ v, (∀ w1, T w w1 → o.quietAt P a (N w1) w1 v) ∧ flowK T N P l Q C r (a.put o.dst v) w
      else flowK T N P l Q C r (a.put o.dst undef) w
  | (o, false) :: r, a, w => ∀ w1, N w w1 → if Region.wanted o (yielded l.toArray a.tmps) = true then o.wp P a w1 (fun a' w' => T w1 w' ∧ flowK T N P l Q C r a' w') Q
      else flowK T N P l Q C r (a.put o.dst undef) w1

def flowOkK (l : List Oper) (hs : List Nat) (fin : Array Bool → Bool) : List (Nat × Bool) → Array Bool → Bool
  | [], listed => fin listed
  | (i, q) :: r, listed => !(listed.getD i true) && hs.contains i && (Region.ready .any l.toArray listed).contains i && (if q then Region.free .any l.toArray listed i else decide (Region.ready .any l.toArray listed = [i])) &&
      flowOkK l hs fin r (listed.setIfInBounds i true)

theorem flowK_sound (R : Rels T N) {l : List Oper} {hs : List Nat} {fin : Array Bool → Bool} {C : Act → World → Prop} {k : Nat} (hk : sunk l.toArray hs = true) (hsel : Region.noSelect l.toArray = true)
    (hQ : ∀ c a d v w, Q (.panic c) (Act.put a d v) w → Q (.panic c) a w)
    (hC : ∀ listed a w fuel, k ≤ fuel → Inv l.toArray listed → fin listed = true → C a w → wpE P l.toArray Q T N hs fuel listed a w) :
    ∀ (fs : List (Nat × Bool)) (listed : Array Bool) (a : Act) (w : World) (fuel : Nat), fs.length + k ≤ fuel → Inv l.toArray listed → flowOkK l hs fin fs listed = true →
      flowK T N P l Q C (pickF l fs) a w → wpE P l.toArray Q T N hs fuel listed a w
  | [], listed, a, w, fuel, hf, hinv, hB, h => hC listed a w fuel (by simpa using hf) hinv hB h
  | (i, q) :: r, listed, a, w, 0, hf, _, _, _ => by simp at hf
  | (i, q) :: r, listed, a, w, fuel + 1, hf, hinv, hB, h => by
    simp only [flowOkK, Bool.and_eq_true, Bool.not_eq_true'] at hB
    obtain ⟨⟨⟨⟨hun, his⟩, hir⟩, hq⟩, hB'⟩ := hB
    have his' : i ∈ hs := by simpa using his
    have hir' : i ∈ Region.ready .any l.toArray listed := by simpa using hir
    obtain ⟨_, o, ho, _⟩ := mem_ready.1 hir'
    have ho' : l[i]? = some o := by simpa using ho
    have hp : pickF l ((i, q) :: r) = (o, q) :: pickF l r := by simp [pickF, ho']
    rw [hp] at h
    have hle : r.length + k ≤ fuel := by simp at hf; omega
    cases q with
    | true =>
      simp only [if_true] at hq
      have hfr := Region.free_spec ho hq
      simp only [flowK] at h
      by_cases hw : Region.wanted o (yielded l.toArray a.tmps) = true
      · rw [if_pos hw] at h
        obtain ⟨v, hv, hn⟩ := h
        exact wpE_first R hk ho his' (Region.noSelect_spec hsel) hQ fuel listed a w hinv hfr hir' (.inl ⟨hw, hv⟩) (flowK_sound R hk hsel hQ hC r _ _ _ fuel hle (hinv.set hir') hB' hn)
      · rw [if_neg hw] at h
        exact wpE_first R hk ho his' (Region.noSelect_spec hsel) hQ fuel listed a w hinv hfr hir' (.inr ⟨by simpa using hw, rfl⟩) (flowK_sound R hk hsel hQ hC r _ _ _ fuel hle (hinv.set hir') hB' h)
    | false =>
      simp only [Bool.false_eq_true, if_false, decide_eq_true_eq] at hq
      refine wpE_only hq (full_false his' (getD_unlisted hun)) fun w1 hw1 => ?_
      simp only [flowK] at h
      have h1 := h w1 hw1
      unfold wpOp
      simp only [ho]
      by_cases hw : Region.wanted o (yielded l.toArray a.tmps) = true
      · rw [if_pos hw] at h1 ⊢
        exact .inl (Oper.wp_mono (fun a' w' h' => ⟨h'.1, flowK_sound R hk hsel hQ hC r _ _ _ fuel hle (hinv.set hir') hB' h'.2⟩) h1)
      · rw [if_neg hw] at h1 ⊢
        exact ⟨R.tr _, flowK_sound R hk hsel hQ hC r _ _ _ fuel hle (hinv.set hir') hB' h1⟩

/-- i1 and i2 alone may come up. -/
def forkOk (l : List Oper) (hs tl : List Nat) (i1 i2 : Nat) (r1 r2 : List (Nat × Bool)) (listed : Array Bool) : Bool :=
  !(listed.getD i1 true) && hs.contains i1 && hs.contains i2 && decide (Region.ready .any l.toArray listed = [i1, i2]) && flowOk l hs tl r1 (listed.setIfInBounds i1 true) && flowOk l hs tl r2 (listed.setIfInBounds i2 true)

theorem fork_sound (R : Rels T N) {l : List Oper} {hs tl : List Nat} (hk : sunk l.toArray hs = true) (hsel : Region.noSelect l.toArray = true) (hQ : ∀ c a d v w, Q (.panic c) (Act.put a d v) w → Q (.panic c) a w)
    {i1 i2 : Nat} {r1 r2 : List (Nat × Bool)} (listed : Array Bool) (a : Act) (w : World) (fuel : Nat) (hf : r1.length + 1 + tl.length ≤ fuel) (hf2 : r2.length + 1 + tl.length ≤ fuel) (hinv : Inv l.toArray listed)
    (hB : forkOk l hs tl i1 i2 r1 r2 listed = true)
    (h : flow T N P l Q (pick l tl) (pickF l ((i1, false) :: r1)) a w ∧ flow T N P l Q (pick l tl) (pickF l ((i2, false) :: r2)) a w) : wpE P l.toArray Q T N hs fuel listed a w := by
  simp only [forkOk, Bool.and_eq_true, Bool.not_eq_true', decide_eq_true_eq] at hB
  obtain ⟨⟨⟨⟨⟨hun, h1s⟩, h2s⟩, hr⟩, hB1⟩, hB2⟩ := hB
  cases fuel with
  | zero => omega
  | succ fuel =>
    intro w1 hw1
    rw [if_neg (by rw [full_false (by simpa using h1s) (getD_unlisted hun)]; simp)]
    refine ⟨fun h0 => (by rw [hr] at h0; cases h0), fun j hj => ?_⟩
    have hj' := hj
    rw [hr] at hj
    have key : ∀ (i : Nat) (r : List (Nat × Bool)), i ∈ Region.ready .any l.toArray listed → r.length + tl.length ≤ fuel → flowOk l hs tl r (listed.setIfInBounds i true) = true →
        flow T N P l Q (pick l tl) (pickF l ((i, false) :: r)) a w → wpOp P l.toArray Q i (fun a' w' => T w1 w' ∧ wpE P l.toArray Q T N hs fuel (listed.setIfInBounds i true) a' w') a w1 := by
      intro i r hi hle hok hfl
      obtain ⟨_, o, ho, _⟩ := mem_ready.1 hi
      have ho' : l[i]? = some o := by simpa using ho
      have hp : pickF l ((i, false) :: r) = (o, false) :: pickF l r := by simp [pickF, ho']
      rw [hp] at hfl
      simp only [flow] at hfl
      have h1 := hfl w1 hw1
      unfold wpOp
      simp only [ho]
      by_cases hw : Region.wanted o (yielded l.toArray a.tmps) = true
      · rw [if_pos hw] at h1 ⊢
        exact .inl (Oper.wp_mono (fun a' w' h' => ⟨h'.1, flow_sound R hk hsel hQ r _ _ _ fuel hle (hinv.set hi) hok h'.2⟩) h1)
      · rw [if_neg hw] at h1 ⊢
        exact ⟨R.tr _, flow_sound R hk hsel hQ r _ _ _ fuel hle (hinv.set hi) hok h1⟩
    simp only [List.mem_cons, List.not_mem_nil, or_false] at hj
    rcases hj with rfl | rfl
    · exact key _ r1 hj' (by omega) hB1 h.1
    · exact key _ r2 hj' (by omega) hB2 h.2

def forkAll (l : List Oper) (fs : List (Nat × Bool)) (i1 i2 : Nat) (r1 r2 : List (Nat × Bool)) (tl : List Nat) : Bool :=
  sunk l.toArray (fs.map (·.1) ++ i1 :: r1.map (·.1)) && Region.noSelect l.toArray && decide (fs.length + (r1.length + 1 + tl.length) ≤ l.length) && decide (r1.length = r2.length) &&
  flowOkK l (fs.map (·.1) ++ i1 :: r1.map (·.1)) (forkOk l (fs.map (·.1) ++ i1 :: r1.map (·.1)) tl i1 i2 r1 r2) fs (Array.replicate l.length false)

/-- **A REGION THAT DRAWS ITS ORDER, where two that make something of their own may come up either way round.** -/
theorem region_forkR (R : Rels T N) {id : Nat} {a : Act} {w : World} {l : List Oper} (fs : List (Nat × Bool)) (i1 i2 : Nat) (r1 r2 : List (Nat × Bool)) (tl : List Nat) (hm : P.follows .mixedOrders = true)
    (hB : forkAll l fs i1 i2 r1 r2 tl = true) (hQ : ∀ c a d v w, Q (.panic c) (Act.put a d v) w → Q (.panic c) a w)
    (h : flowK T N P l Q (fun a w' => flow T N P l Q (pick l tl) (pickF l ((i1, false) :: r1)) a w' ∧ flow T N P l Q (pick l tl) (pickF l ((i2, false) :: r2)) a w') (pickF l fs) a w.drew) :
    (Code.region id l.toArray true).wp P Q a w := by
  simp only [forkAll, Bool.and_eq_true, decide_eq_true_eq] at hB
  obtain ⟨⟨⟨⟨hk, hsel⟩, hle⟩, hlen⟩, hok⟩ := hB
  refine wp_region_any hm ?_
  have hinv : Inv l.toArray (Array.replicate l.length false) := ⟨by simp, fun j o _ hj => by
    rcases Nat.lt_or_ge j l.length with h' | h'
    · simp [h'] at hj
    · simp [h'] at hj⟩
  have := wpAny_of_E R _ _ _ _ (flowK_sound R (P := P) (k := r1.length + 1 + tl.length) hk hsel hQ
    (fun listed a w fuel hfu hinv hfin hC => fork_sound R hk hsel hQ listed a w fuel hfu (by omega) hinv hfin hC) fs (Array.replicate l.length false) a w.drew l.length hle hinv hok h)
  simpa using this

theorem flowK_nil {l : List Oper} {C : Act → World → Prop} {a : Act} {w : World} (h : C a w) : flowK T N P l Q C [] a w := h
theorem flowK_yes {l : List Oper} {C : Act → World → Prop} {a : Act} {w : World} {o : Oper} {r : List (Oper × Bool)} (v : Value) (hg : o.guard = none) (hv : ∀ w1, T w w1 → o.quietAt P a (N w1) w1 v)
    (h : flowK T N P l Q C r (a.put o.dst v) w) : flowK T N P l Q C ((o, true) :: r) a w := by
  simp only [flowK, Region.wanted, hg, if_true]
  exact ⟨v, hv, h⟩

theorem region_forkHeld (row : Option Nat) {id : Nat} {a : Act} {w : World} {l : List Oper} (fs : List (Nat × Bool)) (i1 i2 : Nat) (r1 r2 : List (Nat × Bool)) (tl : List Nat) (hm : P.follows .mixedOrders = true)
    (hB : forkAll l fs i1 i2 r1 r2 tl = true) (hQ : ∀ c a d v w, Q (.panic c) (Act.put a d v) w → Q (.panic c) a w)
    (h : flowK (Held w.drew row) Eq P l Q (fun a w' => flow (Held w.drew row) Eq P l Q (pick l tl) (pickF l ((i1, false) :: r1)) a w' ∧ flow (Held w.drew row) Eq P l Q (pick l tl) (pickF l ((i2, false) :: r2)) a w') (pickF l fs) a w.drew) :
    (Code.region id l.toArray true).wp P Q a w :=
  region_forkR (Rels.held w.drew row) fs i1 i2 r1 r2 tl hm hB hQ h

theorem region_fork (row : Option Nat) {id : Nat} {a : Act} {w : World} {l : List Oper} (fs : List (Nat × Bool)) (i1 i2 : Nat) (r1 r2 : List (Nat × Bool)) (tl : List Nat) (hm : P.follows .mixedOrders = true)
    (hB : forkAll l fs i1 i2 r1 r2 tl = true) (hQ : ∀ c a d v w, Q (.panic c) (Act.put a d v) w → Q (.panic c) a w)
    (h : ∀ w0, Ext w w0 → flowK (Gr row) (Gr row) P l Q (fun a w' => flow (Gr row) (Gr row) P l Q (pick l tl) (pickF l ((i1, false) :: r1)) a w' ∧ flow (Gr row) (Gr row) P l Q (pick l tl) (pickF l ((i2, false) :: r2)) a w') (pickF l fs) a w0) :
    (Code.region id l.toArray true).wp P Q a w :=
  region_forkR (Rels.gr row) fs i1 i2 r1 r2 tl hm hB hQ (h _ (Ext.drew w))

/-- region_flowHeld, the world behind the draw under a name. -/
theorem region_held (row : Option Nat) {id : Nat} {a : Act} {w : World} {l : List Oper} (fs : List (Nat × Bool)) (tl : List Nat) (hm : P.follows .mixedOrders = true)
    (hB : flowAll l fs tl = true) (hQ : ∀ c a d v w, Q (.panic c) (Act.put a d v) w → Q (.panic c) a w)
    (h : ∀ W, W = w.drew → flow (Held W row) Eq P l Q (pick l tl) (pickF l fs) a W) : (Code.region id l.toArray true).wp P Q a w :=
  region_flowR (Rels.held w.drew row) fs tl hm hB hQ (h _ rfl)

theorem region_heldFork (row : Option Nat) {id : Nat} {a : Act} {w : World} {l : List Oper} (fs : List (Nat × Bool)) (i1 i2 : Nat) (r1 r2 : List (Nat × Bool)) (tl : List Nat) (hm : P.follows .mixedOrders = true)
    (hB : forkAll l fs i1 i2 r1 r2 tl = true) (hQ : ∀ c a d v w, Q (.panic c) (Act.put a d v) w → Q (.panic c) a w)
    (h : ∀ W, W = w.drew → flowK (Held W row) Eq P l Q (fun a w' => flow (Held W row) Eq P l Q (pick l tl) (pickF l ((i1, false) :: r1)) a w' ∧ flow (Held W row) Eq P l Q (pick l tl) (pickF l ((i2, false) :: r2)) a w') (pickF l fs) a W) :
    (Code.region id l.toArray true).wp P Q a w :=
  region_forkR (Rels.held w.drew row) fs i1 i2 r1 r2 tl hm hB hQ (h _ rfl)

section held
variable {W : World} {row : Option Nat} {l tl : List Oper} {a : Act} {w : World} {o : Oper} {r : List (Oper × Bool)} {C : Act → World → Prop}
theorem held_yes (hg : Gr row W w) (v : Value) (hd : o.guard = none) (hv : ∀ w1, Gr row W w1 → o.quietAt P a (Eq w1) w1 v) (h : flow (Held W row) Eq P l Q tl r (a.put o.dst v) w) :
    flow (Held W row) Eq P l Q tl ((o, true) :: r) a w := flow_yes v hd (fun w1 hw1 => hv w1 (hw1 hg)) h
theorem heldK_yes (hg : Gr row W w) (v : Value) (hd : o.guard = none) (hv : ∀ w1, Gr row W w1 → o.quietAt P a (Eq w1) w1 v) (h : flowK (Held W row) Eq P l Q C r (a.put o.dst v) w) :
    flowK (Held W row) Eq P l Q C ((o, true) :: r) a w := flowK_yes v hd (fun w1 hw1 => hv w1 (hw1 hg)) h
theorem held_step (hd : o.guard = none) (h : ∀ K : Act → World → Prop, (∀ a' w', Gr row W w' → flow (Held W row) Eq P l Q tl r a' w' → K a' w') → o.wp P a w K Q) :
    flow (Held W row) Eq P l Q tl ((o, false) :: r) a w :=
  flow_step hd fun w1 hw1 K hK => by subst hw1; exact Oper.wp_mono (fun a' w' h' => hK a' w' (fun _ => h'.1) h'.2) (h (fun a' w' => Gr row W w' ∧ flow (Held W row) Eq P l Q tl r a' w') (fun a' w' h1 h2 => ⟨h1, h2⟩))
theorem held_nil (h : wpList P l.toArray Q tl a w) : flow (Held W row) Eq P l Q tl [] a w := fun w1 hw1 => hw1 ▸ h
end held
end
end Go.Proofs.Ytgkeeibjchjlaaa
