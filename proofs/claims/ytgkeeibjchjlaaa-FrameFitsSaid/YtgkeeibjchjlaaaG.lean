/- Texts' frames, joined, as the document says. -/
import Derived.Test.YtgkeeibjchjlaaaF
namespace Go.Proofs.Ytgkeeibjchjlaaa
set_option linter.unusedSimpArgs false
set_option linter.unusedVariables false
open Go.RowKit

theorem txt_app (a : List UInt8) (s : ByteArray) : txt a ++ s = txt (a ++ s.data.toList) := by
  conv => lhs; rw [← txt_data s]
  simp only [ByteArray.mk_append_mk]

/-- Texts' frames, one behind the other; the first error. -/
def joinR : List ByteArray → List UInt8 × Int
  | [] => ([], 0)
  | s :: r => if putE s = 0 then ((putS s).data.toList ++ (joinR r).1, (joinR r).2) else ([], putE s)
theorem joinR_cons (s : ByteArray) (r : List ByteArray) : joinR (s :: r) = if putE s = 0 then ((putS s).data.toList ++ (joinR r).1, (joinR r).2) else ([], putE s) := rfl
def joinE (l : List ByteArray) : Int := (joinR l).2
def joinS (l : List ByteArray) : ByteArray := if joinE l = 0 then txt (joinR l).1 else { data := #[] }

theorem put_len (s : ByteArray) : (putS s).size ≤ 130 := by
  by_cases h0 : s.size = 0
  · rw [(put_empty h0).2.1]; decide
  · by_cases h1 : 128 < s.size
    · rw [(put_long h1).2.1]; decide
    · rw [(put_ok h0 h1).2.1, txt_app_size, layL_two]; simp; omega

set_option maxRecDepth 100000 in
set_option maxHeartbeats 8000000 in
theorem rjoin_any (w : World) (a : Option Addr) (c : Nat) (l : List ByteArray) (hA : Hid (TextsAt w a l)) (hl : l.length ≤ 1000000) :
    Calls Try.prog 20 #[.slice a l.length c] w fun e w' => e = .returned (.tuple #[.string (joinS l), .int .i64 (joinE l)]) ∧ Ext w w' := by
  go_enter Try.func20, Try.ntmps20
  go_wp2_with fail
  go_loopw [4, 5] (fun o i wr => ∃ (j : Nat) (t : List UInt8), i = .int .i64 j ∧ o = .string (txt t) ∧ j ≤ l.length ∧ t.length ≤ 130 * j ∧ joinR l = (t ++ (joinR (l.drop j)).1, (joinR (l.drop j)).2) ∧ Ext w wr) (fun _ i _ => l.length - (intOf i).toNat)
  case atStart => exact ⟨0, [], rfl, rfl, by omega, by simp, by simp, Ext.refl w⟩
  case round =>
    obtain ⟨j, t, rfl, rfl, hj, ht, hf, hx⟩ := hrel
    by_cases hlt : j < l.length
    · have hlt2 : (j : Int) < l.length := by omega
      obtain ⟨g, o, rfl, hc⟩ := (hA.out.ext hx).get hlt
      have hd := List.drop_eq_getElem_cons hlt
      rw [hd] at hf
      generalize l[j] = s at *
      have hpl := put_len s
      by_cases hp : putE s = 0
      · have HN := Lib.hid (show joinR l = (t ++ (putS s).data.toList ++ (joinR (l.drop (j + 1))).1, (joinR (l.drop (j + 1))).2) by
          rw [hf, joinR_cons, if_pos hp]
          simp)
        have HP := Lib.hid hp
        have hts : (txt t).size = t.length := txt_size t
        obtain ⟨u, hu⟩ : ∃ u : ByteArray, u = txt t := ⟨_, rfl⟩
        rw [← hu] at hts
        rw [← hu]
        have HU := Lib.hid hu
        clear hd hf hp hu
        go_wp2_with fail
        refine (rput_any _ s).mono ?_
        rintro e w1 ⟨rfl, x1⟩
        rw [HP.out]
        have hx := hx.trans x1
        clear x1
        obtain ⟨p, hpp⟩ : ∃ p, p = putS s := ⟨_, rfl⟩
        rw [← hpp] at hpl
        rw [← hpp]
        have HPP := Lib.hid hpp
        clear hpp
        go_wp2_with fail
        refine ⟨⟨j + 1, t ++ p.data.toList, rfl, ?_, by omega, ?_, by rw [HPP.out]; exact HN.out, hx⟩, by simp [intOf]; omega⟩
        · rw [HU.out, txt_app]
        · rw [List.length_append, size_list]; omega
      · have hE : joinE l = putE s := by
          unfold joinE
          rw [hf, joinR_cons, if_neg hp]
        have HE := Lib.hid (And.intro hE (show joinS l = { data := #[] } from if_neg (by rw [hE]; exact hp)))
        have hne : (putE s != 0) = true := by simpa using hp
        clear hd hf hp hE
        go_wp2_with fail
        refine (rput_any _ s).mono ?_
        rintro e w1 ⟨rfl, x1⟩
        generalize putS s = p at *
        go_wp2_with fail
        refine bodyPost_ret (v := .tuple #[.string { data := #[] }, .int .i64 (putE s)]) (by simp [results, Try.results20, go_sem]) rfl ⟨by rw [HE.out.1, HE.out.2], hx.trans x1⟩
    · have hlt2 : ¬ (j : Int) < l.length := by omega
      have hjl : j = l.length := by omega
      have hR : joinR l = (t, 0) := by rw [hf, hjl, List.drop_length]; simp [joinR]
      have HR := Lib.hid (show joinE l = 0 ∧ joinS l = txt t by
        have : joinE l = 0 := by unfold joinE; rw [hR]
        exact ⟨this, by unfold joinS; rw [if_pos this, hR]⟩)
      clear hf hR hjl
      go_wp2_with fail
      refine bodyPost_ret (v := .tuple #[.string (txt t), .int .i64 0]) (by simp [results, Try.results20, go_sem]) rfl ⟨by rw [HR.out.1, HR.out.2], hx⟩


end Go.Proofs.Ytgkeeibjchjlaaa
