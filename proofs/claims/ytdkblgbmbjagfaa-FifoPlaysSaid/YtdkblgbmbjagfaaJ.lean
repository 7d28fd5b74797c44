/- The walk of the law on a ring's order. -/
import Derived.Test.YtdkblgbmbjagfaaI
namespace Go.Proofs.Ytdkblgbmbjagfaa
open Go.RowKit

/-- The cells of a slice of acts. -/
def ActsAt (w : World) (a : Option Addr) (l : List (Int × Int)) : Prop :=
  l = [] ∨ ∃ g o, a = some ⟨g, o, none⟩ ∧ ∀ j, j < l.length → w.cell? ⟨g, o + j * 2, none⟩ = some (.int .u8 (l.getD j (0, 0)).1) ∧ w.cell? ⟨g, o + j * 2 + 1, none⟩ = some (.int .i64 (l.getD j (0, 0)).2) ∧
    0 ≤ (l.getD j (0, 0)).1 ∧ (l.getD j (0, 0)).1 ≤ 255

theorem ActsAt.get {w : World} {a : Option Addr} {l : List (Int × Int)} (h : ActsAt w a l) {k : Nat} (hk : k < l.length) :
    ∃ g o x y, a = some ⟨g, o, none⟩ ∧ l.getD k (0, 0) = (x, y) ∧ 0 ≤ x ∧ x ≤ 255 ∧ w.cell? ⟨g, o + k * 2, none⟩ = some (.int .u8 x) ∧ w.cell? ⟨g, o + k * 2 + 1, none⟩ = some (.int .i64 y) := by
  rcases h with rfl | ⟨g, o, ha, hc⟩
  · simp at hk
  · obtain ⟨h1, h2, h3, h4⟩ := hc k hk
    exact ⟨g, o, _, _, ha, rfl, h3, h4, h1, h2⟩

theorem own_slice {w : World} {base : Nat} {v : Value} {l : List Int} (h : w.ownsRow base 3 1 v l.length (l.map (Value.int .i64))) :
    ∃ a c, v = .slice a l.length c ∧ (∀ j x, l[j]? = some x → ∃ g, a = some ⟨g, 0, none⟩ ∧ w.cell? ⟨g, j, none⟩ = some (.int .i64 x)) := by
  have h' := h
  obtain ⟨_, h | ⟨g, cap, cur, hv, _, hb, hn, hm, hs, ht⟩⟩ := h
  · obtain ⟨rfl, h0⟩ := h
    have : l = [] := List.eq_nil_of_length_eq_zero h0
    subst this
    exact ⟨none, 0, rfl, fun j x hj => by simp at hj⟩
  · refine ⟨_, cap, hv, fun j x hj => ⟨g, rfl, ?_⟩⟩
    have hl : j < l.length := (List.getElem?_eq_some_iff.1 hj).1
    rw [World.ownsRow.cellAt (hv ▸ h') j (by omega)]
    simp [hj]

theorem drop_put (P : List Int) (t : Nat) (n y : Int) (ht : t ≤ P.length) (hf : (P.length : Int) - t < n) : fits n (P.drop t) = true ∧ putL n (P.drop t) y = (P ++ [y]).drop t := by
  have e : fits n (P.drop t) = true := by simp [fits]; omega
  exact ⟨e, by rw [putL, if_pos e, List.drop_append_of_le_length ht]⟩

theorem drop_noput (P : List Int) (t : Nat) (n y : Int) (ht : t ≤ P.length) (hf : ¬ (P.length : Int) - t < n) : fits n (P.drop t) = false ∧ putL n (P.drop t) y = P.drop t := by
  have e : fits n (P.drop t) = false := by simp [fits]; omega
  exact ⟨e, by rw [putL, if_neg (by rw [e]; simp)]⟩

theorem drop_take_yes (P : List Int) (t : Nat) (ht : t < P.length) : headV (P.drop t) = P[t] ∧ some' (P.drop t) = true ∧ (P.drop t).tail = P.drop (t + 1) := by
  rw [List.drop_eq_getElem_cons ht]
  exact ⟨rfl, rfl, rfl⟩

theorem drop_take_no (P : List Int) (t : Nat) (ht : P.length ≤ t) : headV (P.drop t) = 0 ∧ some' (P.drop t) = false ∧ (P.drop t).tail = P.drop t := by
  rw [List.drop_eq_nil_of_le ht]
  exact ⟨rfl, rfl, rfl⟩

theorem own_ne {w : World} {b : Nat} {v : Value} {n : Nat} {xs : List Value} (h : w.ownsRow (b + 1) 3 1 v n xs) : v.ownBlock = none ∨ v.ownBlock ≠ some b := by
  cases hv : v.ownBlock with
  | none => exact .inl rfl
  | some k => right; intro e; cases e; have := (h.lt _ hv).1; omega

theorem Ring.grown {w w' : World} {b : Nat} {s : Int} {L : List Int} (h : Ring w b s L) {r : Option Nat} (hg : w.grownBy w' r) (hr : r ≠ some b) : Ring w' b s L := by
  have hl := h.lt
  obtain ⟨f, xs, hr'⟩ := h
  exact ⟨f, xs, hr'.of_blk (hg.block b hl (Ne.symm hr))⟩

set_option maxRecDepth 100000 in
set_option maxHeartbeats 2000000 in
theorem order_walk (w : World) (a : Option Addr) (c : Nat) (r : Int) (l : List (Int × Int)) (hl : l.length ≤ 150) (hr0 : 0 ≤ r) (hr1 : r ≤ 255) (hA : Hid (ActsAt w a l)) :
    Calls Try.prog 3 #[.int .u8 r, .slice a l.length c] w fun e w' => e = .returned (.bool true) ∧ Ext w w' := by
  obtain ⟨i0, hi, hz0, hz1, hz2⟩ := info_parts Try.info3
  have hn1 : 1 ≤ 1 + r % 64 := by omega
  have hn2 : 1 + r % 64 ≤ 64 := by omega
  go_enter Try.func3, Try.ntmps3
  go_wp2_with fail
  generalize hn : 1 + r % 64 = n at *
  have HN := Lib.hid hn
  clear hn hr0 hr1
  refine (new_ring _ n hn1 hn2).mono ?_
  rintro e w1 ⟨rfl, r1, x1⟩
  have hbs := r1.lt
  generalize hb : w.heap.size = b at r1 hbs
  have HB := Lib.hid hb
  clear hb
  go_wp2_with fail
  go_loopw [8, 9, 10] (fun v tk i wr => ∃ (P : List Int) (t k : Nat), tk = .int .i64 t ∧ i = .int .i64 k ∧ t ≤ P.length ∧ P.length ≤ k ∧ k ≤ l.length ∧ Ring wr b n (P.drop t) ∧ wr.ownsRow (b + 1) 3 1 v P.length (P.map (Value.int .i64)) ∧ Ext w wr) (fun _ _ i _ => l.length - (intOf i).toNat)
  case atStart => exact ⟨[], 0, 0, rfl, rfl, by omega, by simp, by omega, r1, World.ownsRow_nil _ _ _ _, x1⟩
  case round =>
    clear r1 x1 hbs
    obtain ⟨P, t, k, rfl, rfl, ht, hP, hk, hr, hown, hx⟩ := hrel
    by_cases hlt : k < l.length
    · obtain ⟨g, o, x, y, rfl, hv, hx0, hx1, hc1, hc2⟩ := hA.out.get hlt
      have cx : wr.cell? ⟨g, o + k * 2, none⟩ = some (.int .u8 x) := hx.cell_some hc1
      have cy : wr.cell? ⟨g, o + k * 2 + 1, none⟩ = some (.int .i64 y) := hx.cell_some hc2
      have hlt2 : (k : Int) < l.length := by omega
      have HV := Lib.hid hv
      clear hv
      obtain ⟨av, cv, rfl, hat⟩ := own_slice hown
      clear hat
      by_cases hf : (P.length : Int) - t < n
      case' pos =>
        obtain ⟨t1, t2⟩ := drop_put P t n y ht hf
        have h := put_ring wr b n _ y hr
        rw [t1, t2] at h
        have H := Lib.hid h
        clear h t1 t2
        go_wp2_with fail
        refine H.out.mono ?_
        rintro e w2 ⟨rfl, r2, g2⟩
        have x2 := hx.grownRow g2 (Nat.le_of_eq HB.out)
        have own2 := hown.kept g2 (own_ne hown)
        have cx2 : w2.cell? ⟨g, o + k * 2, none⟩ = some (.int .u8 x) := x2.cell_some hc1
        have cy2 : w2.cell? ⟨g, o + k * 2 + 1, none⟩ = some (.int .i64 y) := x2.cell_some hc2
        have hbs := r2.lt
        have hsz := x2.size
        clear g2 hr hx H hown cx cy
        go_wp2_with (at_builtin; refine wpList_append_own _ rfl _ _ 28 rfl (b + 1) 3 i0 (.int .i64 0) 1 8 Try.underlying28 hi hz0 hz1 hz2 rfl (by decide) _ _ _ rfl (own2.alloc _) ⟨w2.heap.size, 0, none⟩ 1 1 [.int .i64 y] rfl rfl ?c1 ?c2 ?c3 ?c4 ?c5 ?_)
        case c1 =>
          intro j u hj
          match j, hj with
          | 0, hj => simp at hj; subst hj; simp [Addr.add]
        case c2 => intro u hu; simp at hu; subst hu; rfl
        case c3 => unfold maxLen; omega
        case c4 => omega
        case c5 => simp; omega
        intro v' w3 hown' hgrow _
        have x3 : Ext w w3 := Below.grown (x2.trans (Ext.alloc _ _)) hgrow (by simp; omega) (fun q hq => by have := (own2.lt q hq).1; have := HB.out; omega)
        have r3 : Ring w3 b n ((P ++ [y]).drop t) := (r2.ext (Ext.alloc _ _)).grown hgrow (by rcases own_ne own2 with h | h; (rw [h]; simp); exact h)
        have ownP : w3.ownsRow (b + 1) 3 1 v' (P ++ [y]).length ((P ++ [y]).map (Value.int .i64)) := by simpa using hown'
        have cx3 : w3.cell? ⟨g, o + k * 2, none⟩ = some (.int .u8 x) := x3.cell_some hc1
        have hPl : (P ++ [y]).length ≤ k + 1 := by simp; omega
        have ht3 : t ≤ (P ++ [y]).length := by simp; omega
        clear hown' hgrow own2 r2 x2 cx2 cy2 hbs hsz ht hP hf
        generalize P ++ [y] = P' at *
        obtain ⟨av', cv', rfl, hat⟩ := own_slice ownP
        clear hat
        go_wp2_with fail
      case' neg =>
        obtain ⟨t1, t2⟩ := drop_noput P t n y ht hf
        have h := put_ring wr b n _ y hr
        rw [t1, t2] at h
        have H := Lib.hid h
        clear h t1 t2
        go_wp2_with fail
        refine H.out.mono ?_
        rintro e w3 ⟨rfl, r3, g3⟩
        have x3 := hx.grownRow g3 (Nat.le_of_eq HB.out)
        have ownP := hown.kept g3 (own_ne hown)
        have cx3 : w3.cell? ⟨g, o + k * 2, none⟩ = some (.int .u8 x) := x3.cell_some hc1
        have hPl : P.length ≤ k + 1 := by omega
        have ht3 : t ≤ P.length := ht
        clear g3 hr hx H hown cx cy
        go_wp2_with fail
        clear ht hP hf
        obtain ⟨P', rfl⟩ : ∃ P', P' = P := ⟨_, rfl⟩
        obtain ⟨av', rfl⟩ : ∃ av', av' = av := ⟨_, rfl⟩
        obtain ⟨cv', rfl⟩ : ∃ cv', cv' = cv := ⟨_, rfl⟩
      all_goals
        obtain ⟨q, hq⟩ : ∃ q : Nat, x % 3 = q := ⟨(x % 3).toNat, by omega⟩
        have hq2 : q ≤ 2 := by omega
        have HQ := Lib.hid hq
        clear hq
        obtain ⟨w4, rfl⟩ : ∃ w4 : World, w4 = w3 := ⟨_, rfl⟩
        go_loopw [9, 12] (fun tk i wr2 => ∃ t2 j : Nat, tk = .int .i64 t2 ∧ i = .int .i64 j ∧ t2 ≤ P'.length ∧ j ≤ q ∧ Ring wr2 b n (P'.drop t2) ∧ wr2.ownsRow (b + 1) 3 1 (.slice av' P'.length cv') P'.length (P'.map (Value.int .i64)) ∧ Ext w wr2) (fun _ i _ => q - (intOf i).toNat)
        case atStart => exact ⟨t, 0, rfl, rfl, ht3, by omega, r3, ownP, x3⟩
        case round =>
          clear r3 ownP cx3 ht3 x3
          obtain ⟨t2, j, rfl, rfl, ht2, hj, hr, hown, hx⟩ := hrel
          have cx : wr.cell? ⟨g, o + k * 2, none⟩ = some (.int .u8 x) := hx.cell_some hc1
          by_cases hjq : j < q
          · have hjq2 : (j : Int) < x % 3 := by have := HQ.out; omega
            by_cases htl : t2 < P'.length
            · obtain ⟨t3, t4, t5⟩ := drop_take_yes P' t2 htl
              have h := take_ring wr b n _ hr
              rw [t3, t4, t5] at h
              obtain ⟨av2, cv2, hsl, hat⟩ := own_slice hown
              cases hsl
              obtain ⟨g2, rfl, hg2⟩ := hat t2 P'[t2] (by simp [htl])
              generalize hz : P'[t2] = z at *
              have H := Lib.hid h
              have htl2 : (t2 : Int) < P'.length := by omega
              clear h t3 t4 t5 hat hz
              go_wp2_with fail
              refine H.out.mono ?_
              rintro e w2 ⟨rfl, r2, g3⟩
              have x2 := hx.grownRow g3 (Nat.le_of_eq HB.out)
              have own2 := hown.kept g3 (own_ne hown)
              have hz2 : w2.cell? ⟨g2, t2, none⟩ = some (.int .i64 z) := (World.cell?_of_block (w := wr) (g3.block g2 (lt_of_cell hg2) (by have := (hown.lt g2 rfl).1; simp; omega))).trans hg2
              clear g3 hr hx H hown hg2 cx
              go_wp2_with fail
              go_roundw
              case rel => exact ⟨t2 + 1, j + 1, by go_num, by go_num, by omega, by omega, r2, own2, x2⟩
              case measure => simp [intOf] <;> omega
            · obtain ⟨t3, t4, t5⟩ := drop_take_no P' t2 (by omega)
              have h := take_ring wr b n _ hr
              rw [t3, t4, t5] at h
              have H := Lib.hid h
              have htl2 : (P'.length : Int) ≤ t2 := by omega
              clear h t3 t4 t5
              go_wp2_with fail
              refine H.out.mono ?_
              rintro e w2 ⟨rfl, r2, g3⟩
              have x2 := hx.grownRow g3 (Nat.le_of_eq HB.out)
              have own2 := hown.kept g3 (own_ne hown)
              clear g3 hr hx H hown cx
              go_wp2_with fail
              go_roundw
              case rel => exact ⟨t2, j + 1, rfl, by go_num, by omega, by omega, r2, own2, x2⟩
              case measure => simp [intOf] <;> omega
          · have hjq2 : x % 3 ≤ (j : Int) := by have := HQ.out; omega
            have hlen : ((P'.drop t2).length : Int) = (P'.length : Int) - t2 := by simp; omega
            have h1 := len_ring wr b n _ hr
            have h2 := room_ring wr b n _ hr
            rw [hlen] at h1 h2
            have H1 := Lib.hid h1
            have H2 := Lib.hid h2
            have hfit : (P'.length : Int) - t2 ≤ n := by obtain ⟨f, xs, hh⟩ := hr; have := hh.fit; omega
            clear h1 h2 hlen
            go_wp2_with fail
            refine H1.out.mono ?_
            rintro e w' ⟨rfl, rfl⟩
            go_wp2_with fail
            refine H1.out.mono ?_
            rintro e w'' ⟨rfl, rfl⟩
            go_wp2_with fail
            refine H2.out.mono ?_
            rintro e w2 ⟨rfl, rfl⟩
            go_wp2_with fail
            go_roundw
            case rel => exact ⟨P', t2, k + 1, rfl, by go_num, ht2, hPl, by omega, hr.ext (Ext.drew _), hown.drew, hx.trans (Ext.drew _)⟩
            case measure => simp [intOf] <;> omega
    · go_wp2_with fail
      refine (awake_any _).mono ?_
      rintro e w2 ⟨rfl, y2⟩
      go_wp2_with fail
      go_ret
      exact ⟨rfl, hx.trans y2⟩

set_option maxHeartbeats 400000 in
theorem order_long (w : World) (a : Option Addr) (c n : Nat) (r : Int) (h : 150 < n) :
    Calls Try.prog 3 #[.int .u8 r, .slice a n c] w fun e w' => e = .returned (.bool true) ∧ Ext w w' := by
  have hd : (150 : Int) < n := by omega
  go_enter Try.func3, Try.ntmps3
  go_wp2_with fail
  refine (awake_any _).mono ?_
  rintro e w2 ⟨rfl, y2⟩
  go_wp2_with fail
  go_ret
  exact ⟨rfl, y2⟩

end Go.Proofs.Ytdkblgbmbjagfaa
