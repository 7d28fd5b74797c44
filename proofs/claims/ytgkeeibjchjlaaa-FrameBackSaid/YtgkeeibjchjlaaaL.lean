/- All frames; how many there are. -/
import Derived.Test.YtgkeeibjchjlaaaK
namespace Go.Proofs.Ytgkeeibjchjlaaa
set_option linter.unusedSimpArgs false
set_option linter.unusedVariables false
open Go.RowKit
open Go.Shelf

attribute [local go_sem] Oper.semAt_some

/-- The items that tell a text. -/
def goodI (l : List (ByteArray × Int)) : List (ByteArray × Int) := l.filter (fun x => x.2 == 0)
theorem good_nil : goodI [] = [] := rfl
theorem good_snoc (l : List (ByteArray × Int)) (s : ByteArray) : goodI (l ++ [(s, 0)]) = goodI l ++ [(s, 0)] := by simp [goodI]
theorem bad_snoc (l : List (ByteArray × Int)) (s : ByteArray) {e : Int} (h : ¬ e = 0) : goodI (l ++ [(s, e)]) = goodI l := by simp [goodI, h]
theorem good_le (l : List (ByteArray × Int)) : (goodI l).length ≤ l.length := List.length_filter_le _ _
def textI (l : List (ByteArray × Int)) : List ByteArray := (goodI l).map Prod.fst

theorem itemsL_len : ∀ (f : Nat) (L : List UInt8), (itemsL f L).length ≤ f
  | 0, _ => Nat.le_refl _
  | f + 1, L => by
    unfold itemsL
    split
    · simp
    · split
      · rw [List.length_cons]; have := itemsL_len f (L.drop (getN (txt L)).toNat); omega
      · simp
theorem items_len (b : ByteArray) : (itemsT b).length ≤ b.size := itemsL_len _ _

theorem allOf_items (b : ByteArray) : allOf b = (textI (itemsT b), ((itemsT b).getLast?.map Prod.snd).getD 0) := all_items b.size b.data.toList (by rw [size_list]; exact Nat.le_refl _)
theorem count_items (b : ByteArray) : countN b = (goodI (itemsT b)).length := by
  unfold countN
  rw [allOf_items]
  simp [textI]
/-- An error comes last. -/
theorem items_last : ∀ (f : Nat) (L : List UInt8) (pre rest : List (ByteArray × Int)) (x : ByteArray × Int), itemsL f L = pre ++ x :: rest → ¬ x.2 = 0 → rest = []
  | 0, _, pre, rest, x, h, _ => by simp [itemsL] at h
  | f + 1, L, pre, rest, x, h, hx => by
    unfold itemsL at h
    split at h
    · simp at h
    · split at h
      · rename_i hE
        cases pre with
        | nil =>
          rw [List.nil_append] at h
          obtain ⟨h1, h2⟩ := List.cons.inj h
          rw [← h1] at hx
          exact absurd hE hx
        | cons y ys =>
          rw [List.cons_append] at h
          exact items_last f _ ys rest x (List.cons.inj h).2 hx
      · cases pre with
        | nil =>
          rw [List.nil_append] at h
          exact (List.cons.inj h).2.symm
        | cons y ys =>
          rw [List.cons_append] at h
          have := (List.cons.inj h).2
          simp at this

/-- What is said of a box and of what lay stands. -/
theorem stands_box {β : Type} {B m k : Nat} {t : TypeId} (f : β → Value) (w : World) (hk : k < m) (hkB : k ≠ B) (hB : w.heap.size ≤ B) (hm : w.heap.size ≤ m) : StandsOver B m (fun s W => Boxed W k t (f s) ∧ Ext w W) :=
  fun s W W' row hs hg hr => ⟨hs.1.kept hg (fun e => by rcases hr _ e.symm with h | ⟨h, _⟩ <;> omega), hs.2.grown hg hs.2.size (fun j e => by rcases hr _ e with h | ⟨h, _⟩ <;> omega)⟩
theorem stands_pure {β : Type} {B m : Nat} (f : β → Prop) : StandsOver B m (fun s _ => f s) := fun _ _ _ _ hs _ _ => hs
theorem StandsOver.and {β : Type} {B m : Nat} {I J : β → World → Prop} (h : StandsOver B m I) (k : StandsOver B m J) : StandsOver B m (fun s W => I s W ∧ J s W) :=
  fun s W W' row hs hg hr => ⟨h s W W' row hs.1 hg hr, k s W W' row hs.2 hg hr⟩
theorem stands_size {β : Type} {B m n : Nat} : StandsOver B m (fun (_ : β) W => n ≤ W.heap.size) := fun _ _ _ _ hs hg _ => Nat.le_trans hs hg.size
theorem own_cells {w : World} {base e n : Nat} {v : Value} {xs : List Value} (h : w.ownsRow base e 1 v n xs) {j : Nat} {o : Obj} (hj : v.ownBlock = some j) (ho : w.heap[j]? = some o) : o.isCells = true := by
  obtain ⟨_, h | ⟨g, cap, cur, hv, _, hb, _⟩⟩ := h
  · rw [h.1] at hj; simp [Value.ownBlock] at hj
  · rw [hv] at hj
    simp [Value.ownBlock] at hj
    subst hj
    rw [hb] at ho
    cases ho
    rfl
/-- .. of a row too, whose blocks lie from m on. -/
theorem stands_row {β : Type} {B m e : Nat} (v : β → World → Value → Prop) (n : β → Nat) (l : β → List Value) (hB : B < m) (hv : ∀ s W W' row x, v s W x → W.grownBy W' row → (∀ r, row = some r → r = B ∨ (m ≤ r ∧ ∃ o : Obj, W.heap[r]? = some o ∧ o.isCells = false)) → v s W' x) :
    StandsOver B m (fun s W => ∃ x, v s W x ∧ W.ownsRow m e 1 x (n s) (l s)) := by
  rintro s W W' row ⟨x, hx, hown⟩ hg hr
  refine ⟨x, hv s W W' row x hx hg hr, hown.kept hg ?_⟩
  by_cases hn : x.ownBlock = none
  · exact .inl hn
  · obtain ⟨k, hk⟩ := Option.ne_none_iff_exists'.1 hn
    refine .inr (fun e => ?_)
    rw [hk] at e
    rcases hr _ e.symm with h | ⟨_, o, ho, hc⟩
    · have := (hown.lt k hk).1; omega
    · rw [own_cells hown hk ho] at hc; cases hc

set_option maxRecDepth 100000 in
set_option maxHeartbeats 8000000 in
theorem count_any (w : World) (b : ByteArray) (hs : b.size ≤ 1000000) : Calls Try.prog 13 #[.string b] w fun e w' => e = .returned (.int .i64 (countN b)) ∧ Ext w w' := by
  have HC := Lib.hid (count_items b)
  have HL := Lib.hid (items_len b)
  refine (callsIn_wide (n := 3)).1 ?_
  have h1 : 1 ≤ 3 := by decide
  refine callsIn_of_wp_marks Try.func13 rfl trivial ?_ rfl
  simp only [Try.ntmps13, List.size_toArray, List.length_cons, List.length_nil, Nat.reduceAdd, Nat.reduceSub, Array.replicate_succ, Array.replicate_zero, List.push_toArray, List.append_toArray, List.nil_append, List.cons_append]
  gi_wp2_with fail
  refine ⟨trivial, (frames_any _ _ _).mono ?_⟩
  rintro e w' ⟨rfl, rfl⟩
  gi_wp2_with fail
  have bN := Boxed.new w 3 (.int .i64 0)
  have bB := Boxed.new (w.alloc (.cells #[.int .i64 0] 3)) 9 (.string b)
  rw [World.size_alloc] at bB
  have hx0 : Ext w ((w.alloc (.cells #[.int .i64 0] 3)).alloc (.cells #[.string b] 9)) := ((Ext.refl w).al _).al _
  refine walk_rangeAt rfl h1 (gf := 33) (lb := #[.pointer (some ⟨w.heap.size + 1, 0, none⟩)]) rfl trivial (enters_of Try.func33 (by kernel_rfl) rfl)
    (walk_gives (3 - 1) (by decide) (w.heap.size + 1) b hs _ bB) (by simp) (fun _ => rfl)
    (fun pre W => Boxed W w.heap.size 3 (.int .i64 (goodI pre).length) ∧ Ext w W)
    (fun _ _ _ => False)
    (stands_box (fun pre => .int .i64 (goodI pre).length) w (by simp; omega) (by omega) (by omega) (by simp; omega))
    (fun _ _ _ _ _ h _ _ => h)
    ⟨bN.alloc _, hx0⟩
    (fun x => { tmps := #[.string b, undef, .int .i64 0, .pointer (some ⟨w.heap.size, 0, none⟩), undef, .int .i64 x.2, .string b, .func (.func 33) #[] #[.pointer (some ⟨w.heap.size + 1, 0, none⟩)], .string x.1, .int .i64 x.2, undef, undef, undef, undef, undef], defers := [] }) ?assign ?body ?done ?stop
  case assign =>
    intro l x W K hK
    gi_wp2_with fail
    exact hK
  case body =>
    rintro l pre ⟨s, x⟩ W ⟨hv, hx⟩ ⟨rest, hr⟩
    have hc := hv.cell
    have hfz := hv.frozen
    have hpl := good_le pre
    have hit : pre.length ≤ 1000000 := by
      have := HL.out
      rw [hr, List.length_append] at this
      omega
    dsimp only
    by_cases h0 : x = 0
    · subst h0
      have HG := Lib.hid (good_snoc pre s)
      clear hr
      gi_wp2_with fail
      refine ⟨KeepsOthers.setCell _ _ _, ⟨by simp, Below.heap_setCell _ _ _ _ (by simp)⟩, ?_, hx.set (Nat.le_refl _) _⟩
      rw [HG.out]
      simpa using hv.set (.int .i64 ((goodI pre).length + 1))
    · have HG := Lib.hid (bad_snoc pre s h0)
      have hne : (x == 0) = false := by simpa using h0
      clear hr h0
      gi_wp2_with fail
      exact ⟨KeepsOthers.refl _, ⟨Nat.le_refl _, rfl⟩, by rw [HG.out]; exact hv, hx⟩
  case done =>
    rintro D W hD ⟨hv, hx⟩ hK
    have hc := hv.cell
    have HV := Lib.hid (show (goodI (itemsT b)).length = countN b from HC.out.symm)
    rw [HV.out] at hc
    gi_wp2_with fail
    refine ⟨by simp, .inl ⟨_, _, rfl, run_takeDeferred hK, ?_⟩⟩
    exact ⟨_, results_tmp rfl _ _ _, rfl, hx.grown (grownBy_putObj' _ D (.deferred none)) hx.size (fun k e => by cases e; simp at hD; omega)⟩
  case stop =>
    rintro D pre W hD hp h hK
    exact h.elim

theorem textI_snoc (l : List (ByteArray × Int)) (s : ByteArray) : textI (l ++ [(s, 0)]) = textI l ++ [s] := by unfold textI; rw [good_snoc]; simp
theorem textI_len (l : List (ByteArray × Int)) : (textI l).length ≤ l.length := by unfold textI; rw [List.length_map]; exact good_le l

/-- What the items tell, when all have come without an error; when one has come with one. -/
theorem all_fine (b : ByteArray) (h : ∀ x ∈ itemsT b, x.2 = 0) : allE b = 0 ∧ allT b = textI (itemsT b) := by
  have h1 : allE b = 0 := by
    unfold allE
    rw [allOf_items]
    cases hl : (itemsT b).getLast? with
    | none => rfl
    | some x => exact h x (List.mem_of_getLast? hl)
  exact ⟨h1, by rw [allT_yes h1, allOf_items]⟩
theorem all_bad (b : ByteArray) (pre : List (ByteArray × Int)) (s : ByteArray) (e : Int) (rest : List (ByteArray × Int)) (h : itemsT b = pre ++ (s, e) :: rest) (he : ¬ e = 0) : allE b = e ∧ allT b = [] := by
  have hr : rest = [] := items_last _ _ pre rest (s, e) h he
  subst hr
  have h1 : allE b = e := by
    unfold allE
    rw [allOf_items, h]
    simp
  exact ⟨h1, allT_no (by rw [h1]; exact he)⟩

set_option maxRecDepth 100000 in
set_option maxHeartbeats 8000000 in
theorem all_any (w : World) (b : ByteArray) (hs : b.size ≤ 1000000) : Calls Try.prog 10 #[.string b] w fun e w' =>
    ∃ a c, e = .returned (.tuple #[.slice a (allT b).length c, .int .i64 (allE b)]) ∧ TextsAt w' a (allT b) ∧ Ext w w' := by
  obtain ⟨i0, hi, hz0, hz1, hz2⟩ := info_parts info9
  have HL := Lib.hid (items_len b)
  have HF := Lib.hid (all_fine b)
  have HB := Lib.hid (all_bad b)
  refine (callsIn_wide (n := 3)).1 ?_
  have h1 : 1 ≤ 3 := by decide
  refine callsIn_of_wp_marks Try.func10 rfl trivial ?_ rfl
  simp only [Try.ntmps10, List.size_toArray, List.length_cons, List.length_nil, Nat.reduceAdd, Nat.reduceSub, Array.replicate_succ, Array.replicate_zero, List.push_toArray, List.append_toArray, List.nil_append, List.cons_append]
  gi_wp2_with fail
  refine ⟨trivial, (frames_any _ _ _).mono ?_⟩
  rintro e w' ⟨rfl, rfl⟩
  gi_wp2_with fail
  obtain ⟨g, hg⟩ : ∃ g, g = w.heap.size := ⟨_, rfl⟩
  rw [← hg]
  obtain ⟨V, hV⟩ : ∃ V, V = ((((w.alloc (Obj.cells #[Value.slice none 0 0] 28)).alloc (Obj.cells #[Value.int IntKind.i64 0] 23)).alloc (Obj.cells #[Value.slice none 0 0] 28)).alloc (Obj.cells #[Value.string b] 9)) := ⟨_, rfl⟩
  rw [← hV]
  have b0 : Boxed V g 28 (.slice none 0 0) := by rw [hV, hg]; exact (((Boxed.new w 28 _).alloc _).alloc _).alloc _
  have b1 : Boxed V (g + 1) 23 (.int .i64 0) := by
    have := Boxed.new (w.alloc (Obj.cells #[Value.slice none 0 0] 28)) 23 (.int .i64 0)
    rw [World.size_alloc, ← hg] at this
    rw [hV]; exact (this.alloc _).alloc _
  have b2 : Boxed V (g + 1 + 1) 28 (.slice none 0 0) := by
    have := Boxed.new ((w.alloc (Obj.cells #[Value.slice none 0 0] 28)).alloc (Obj.cells #[Value.int IntKind.i64 0] 23)) 28 (.slice none 0 0)
    rw [World.size_alloc, World.size_alloc, ← hg] at this
    rw [hV]; exact this.alloc _
  have b3 : Boxed V (g + 1 + 1 + 1) 9 (.string b) := by
    have := Boxed.new (((w.alloc (Obj.cells #[Value.slice none 0 0] 28)).alloc (Obj.cells #[Value.int IntKind.i64 0] 23)).alloc (Obj.cells #[Value.slice none 0 0] 28)) 9 (.string b)
    rw [World.size_alloc, World.size_alloc, World.size_alloc, ← hg] at this
    rw [hV]; exact this
  have hx0 : Ext w V := by rw [hV]; exact ((((Ext.refl w).al _).al _).al _).al _
  have hVs : V.heap.size = g + 4 := by rw [hV]; simp [hg]
  clear hV
  have hgl : w.heap.size ≤ g := by omega
  clear hg
  refine walk_rangeAt rfl h1 (gf := 33) (lb := #[.pointer (some ⟨g + 1 + 1 + 1, 0, none⟩)]) rfl trivial (enters_of Try.func33 (by kernel_rfl) rfl)
    (walk_gives (3 - 1) (by decide) (g + 1 + 1 + 1) b hs _ b3) (by omega) (fun _ => rfl)
    (fun pre W => (∀ x ∈ pre, x.2 = 0) ∧ (∃ v, Boxed W (g + 1 + 1) 28 v ∧ W.ownsRow V.heap.size 9 1 v (textI pre).length (tC (textI pre))) ∧ (Boxed W g 28 (.slice none 0 0) ∧ Ext w W) ∧ (Boxed W (g + 1) 23 (.int .i64 0) ∧ Ext w W) ∧ V.heap.size ≤ W.heap.size)
    (fun _ _ W => (allT b = [] ∧ Boxed W g 28 (.slice none 0 0) ∧ Ext w W) ∧ (Boxed W (g + 1) 23 (.int .i64 (allE b)) ∧ Ext w W))
    ((stands_pure (fun pre : List (ByteArray × Int) => ∀ x ∈ pre, x.2 = 0)).and ((stands_row (fun _ W v => Boxed W (g + 1 + 1) 28 v) (fun pre => (textI pre).length) (fun pre => tC (textI pre)) (by omega) (fun s W W' row x hs hg hr => hs.kept hg (fun e => by rcases hr _ e.symm with h | ⟨h, _⟩ <;> omega))).and
      ((stands_box (fun _ => .slice none 0 0) w (by omega) (by omega) (by omega) (by omega)).and ((stands_box (fun _ => .int .i64 0) w (by omega) (by omega) (by omega) (by omega)).and stands_size))))
    (fun _ => ((stands_pure (fun _ : List (ByteArray × Int) => allT b = [])).and (stands_box (fun _ => .slice none 0 0) w (by omega) (by omega) (by omega) (by omega))).and (stands_box (fun _ => .int .i64 (allE b)) w (by omega) (by omega) (by omega) (by omega)))
    ⟨by simp, ⟨_, b2, World.ownsRow_nil _ _ _ _⟩, ⟨b0, hx0⟩, ⟨b1, hx0⟩, Nat.le_refl _⟩
    (fun x => { tmps := #[.string b, undef, .pointer (some ⟨g, 0, none⟩), .pointer (some ⟨g + 1, 0, none⟩), .pointer (some ⟨g + 1 + 1, 0, none⟩), .string x.1, .int .i64 x.2, .string b, .func (.func 33) #[] #[.pointer (some ⟨g + 1 + 1 + 1, 0, none⟩)], .string x.1, .int .i64 x.2, undef, undef, undef, undef, undef, undef, undef, undef], defers := [] }) ?assign ?body ?done ?stop
  case assign =>
    intro l x W K hK
    gi_wp2_with fail
    exact hK
  case body =>
    rintro l pre ⟨s, x⟩ W ⟨hall, ⟨v, hv, hown⟩, ⟨hb0, hx⟩, ⟨hb1, _⟩, hVW⟩ ⟨rest, hr⟩
    have hpl := textI_len pre
    have hit : pre.length ≤ 1000000 := by
      have := HL.out
      rw [hr, List.length_append] at this
      omega
    dsimp only
    by_cases h0 : x = 0
    · subst h0
      have HG := Lib.hid (textI_snoc pre s)
      have hc := hv.cell
      have hfz := hv.frozen
      have HW := Lib.hid (And.intro hv (And.intro hb0 hb1))
      have HA := Lib.hid hall
      have HO := Lib.hid hown
      have hsz := hx.size
      clear hr hv hb0 hb1 hall hown
      gi_wp2_with (gi_at_builtin; refine wpListIn_append_own _ rfl _ _ 28 rfl V.heap.size 9 i0 (.string { data := #[] }) 1 16 Try.underlying28 hi hz0 hz1 hz2 rfl (by decide) _ _ _ rfl (HO.out.alloc _) ⟨W.heap.size, 0, none⟩ 1 1 [.string s] rfl rfl (cell_one_new _ _ _) (by simp [Value.oneCell']) (by unfold maxLen; omega) (by omega) (by simp; omega) ?_; intro v' w1 hown' hgrow _; obtain ⟨g', cap', rfl⟩ := ownsRow_succ hown'; have HR := Lib.hid (And.intro hown' hgrow); have hv1 := (HW.out.1.alloc (Obj.cells #[Value.string s] 9)).kept hgrow (fun e => by have := (HO.out.lt _ e.symm).1; omega); have hc1 := hv1.cell; have hf1 := hv1.frozen; clear hown' hgrow hc hfz)
      obtain ⟨hown', hgrow⟩ := HR.out
      obtain ⟨-, hb0, hb1⟩ := HW.out
      have k0 := (hb0.alloc (Obj.cells #[Value.string s] 9)).kept hgrow (fun e => by have := (HO.out.lt _ e.symm).1; omega)
      have k1 := (hb1.alloc (Obj.cells #[Value.string s] 9)).kept hgrow (fun e => by have := (HO.out.lt _ e.symm).1; omega)
      have xs := (hx.al (Obj.cells #[Value.string s] 9)).grown hgrow (by simp; omega) (fun k hk => by have := (HO.out.lt k hk).1; omega)
      have xs2 := Ext.set xs (b := g + 1 + 1) (o := 0) (by omega) (.slice (some ⟨g', 0, none⟩) ((textI pre).length + 1) cap')
      have ko : KeepsOthers W w1 := (KeepsOthers.alloc W _).trans (KeepsOthers.of_grownBy hgrow (fun j o hj ho => own_cells (HO.out.alloc _) hj ho))
      have gs := hgrow.size
      rw [World.size_alloc] at gs
      have hbk : w1.heap[g + 1 + 1 + 1]? = W.heap[g + 1 + 1 + 1]? :=
        (hgrow.block _ (by simp; omega) (fun e => by have := (HO.out.lt _ e.symm).1; omega)).trans (Below.heap_alloc _ _ _ (by omega))
      refine ⟨ko.trans (KeepsOthers.setCell _ _ _), ⟨by simp; omega, (Below.heap_setCell _ _ _ _ (by simp)).trans hbk⟩, ?_, ⟨_, hv1.set _, ?_⟩, ⟨k0.kept (grownBy_setCell' _ _ _) (by simp; omega), xs2⟩, ⟨k1.kept (grownBy_setCell' _ _ _) (by simp), xs2⟩, by simp; omega⟩
      · intro y hy
        rcases List.mem_append.1 hy with h | h
        · exact HA.out y h
        · simp at h; rw [h]
      · rw [HG.out, List.length_append, tC_append]
        exact hown'.kept (grownBy_setCell' _ _ _) (.inr (fun e => by have := (hown'.lt _ e).1; omega))
    · have HG := Lib.hid (HB.out pre s x rest hr h0)
      have hne : (x != 0) = true := by simpa using h0
      have c0 := hb0.cell
      have f0 := hb0.frozen
      have c1 := hb1.cell
      have f1 := hb1.frozen
      have HW := Lib.hid (And.intro hb0 hb1)
      clear hr h0 hown hall hb0 hb1
      gi_wp2_with fail
      obtain ⟨hb0, hb1⟩ := HW.out
      refine ⟨(KeepsOthers.setCell _ _ _).trans (KeepsOthers.setCell _ _ _), ⟨HG.out.2, (hb0.set _).kept (grownBy_setCell' _ _ _) (by simp), Ext.set (Ext.set hx hgl _) (by omega) _⟩, ?_, Ext.set (Ext.set hx hgl _) (by omega) _⟩
      rw [HG.out.1]
      exact (hb1.kept (grownBy_setCell' _ _ _) (by simp)).set _
  case done =>
    rintro D W hD ⟨hall, ⟨v, hv, hown⟩, ⟨hb0, hx⟩, ⟨hb1, _⟩, hVW⟩ hK
    have HG := Lib.hid (HF.out hall)
    obtain ⟨av, cv, rfl, hat⟩ := own_texts hown
    have hc := hv.cell
    have c0 := hb0.cell
    have f0 := hb0.frozen
    have c1 := hb1.cell
    have f1 := hb1.frozen
    have HO := Lib.hid hown
    clear hall hat hown
    gi_wp2_with fail
    obtain ⟨W2, hW2⟩ : ∃ W2, W2 = (W.setCell ⟨g, 0, none⟩ (Value.slice av (textI (itemsT b)).length cv)).setCell ⟨g + 1, 0, none⟩ (Value.int IntKind.i64 0) := ⟨_, rfl⟩
    rw [← hW2]
    have hK' : W2.heap[D]? = some (.deferred (some [])) := by
      rw [hW2]
      exact ((KeepsOthers.setCell W _ _).trans (KeepsOthers.setCell _ _ _)).same D _ hK rfl
    have d0 : Boxed W2 g 28 (Value.slice av (textI (itemsT b)).length cv) := by rw [hW2]; exact (hb0.set _).kept (grownBy_setCell' _ _ _) (by simp)
    have d1 : Boxed W2 (g + 1) 23 (Value.int IntKind.i64 0) := by rw [hW2]; exact (hb1.kept (grownBy_setCell' _ _ _) (by simp)).set _
    have hx2 : Ext w W2 := by rw [hW2]; exact Ext.set (Ext.set hx hgl _) (by omega) _
    have ho2 : W2.ownsRow V.heap.size 9 1 (Value.slice av (textI (itemsT b)).length cv) (textI (itemsT b)).length (tC (textI (itemsT b))) := by
      rw [hW2]
      exact (HO.out.kept (grownBy_setCell' _ _ _) (.inr (fun e => by have := (HO.out.lt _ e).1; omega))).kept (grownBy_setCell' _ _ _) (.inr (fun e => by have := (HO.out.lt _ e).1; omega))
    clear hW2
    have e0 := (d0.kept (grownBy_putObj' _ D (.deferred none)) (fun e => by have := Option.some.inj e; omega)).cell
    have e1 := (d1.kept (grownBy_putObj' _ D (.deferred none)) (fun e => by have := Option.some.inj e; omega)).cell
    refine ⟨by simp, .inl ⟨_, _, rfl, run_takeDeferred hK', ?_⟩⟩
    refine ⟨.tuple #[.slice av (textI (itemsT b)).length cv, .int .i64 0], by simp [results, Try.results10, go_sem, e0, e1], av, cv, by rw [HG.out.1, HG.out.2], ?_, hx2.grown (grownBy_putObj' _ D (.deferred none)) hx2.size (fun k e => by cases e; omega)⟩
    rw [HG.out.2]
    obtain ⟨a', c', hv', hat⟩ := own_texts (ownsRow_putObj ho2 (.deferred none) hK' rfl)
    cases hv'
    exact hat
  case stop =>
    rintro D pre W hD hp ⟨⟨hT, hb0, hx⟩, hb1, _⟩ hK
    have HT := Lib.hid hT
    clear hT
    gi_wp2_with fail
    have e0 := (hb0.kept (grownBy_putObj' _ D (.deferred none)) (fun e => by have := Option.some.inj e; omega)).cell
    have e1 := (hb1.kept (grownBy_putObj' _ D (.deferred none)) (fun e => by have := Option.some.inj e; omega)).cell
    refine ⟨by simp, .inl ⟨_, _, rfl, run_takeDeferred hK, ?_⟩⟩
    refine ⟨.tuple #[.slice none 0 0, .int .i64 (allE b)], by simp [results, Try.results10, go_sem, e0, e1], none, 0, by rw [HT.out]; rfl, .inl HT.out, hx.grown (grownBy_putObj' _ D (.deferred none)) hx.size (fun k e => by cases e; omega)⟩

end Go.Proofs.Ytgkeeibjchjlaaa
