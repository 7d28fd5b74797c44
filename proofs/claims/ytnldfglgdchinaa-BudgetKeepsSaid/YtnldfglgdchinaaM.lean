/- A right program's answers, each once. -/
import Derived.Test.YtnldfglgdchinaaEq
namespace Go.Proofs.Ytnldfglgdchinaa
set_option linter.unusedSimpArgs false
set_option linter.unusedVariables false
open Go.RowKit

theorem awake_A0 : (if (1:Int) ≤ 20 ∧ (20:Int) ≤ 4096 then (20:Int) else 0) = 20 := by kernel_rfl
theorem awake_A1 : (if (1:Int) ≤ 20 ∧ (20:Int) ≤ 4096 then (0:Int) else 8) = 0 := by kernel_rfl
theorem awake_B0 : (S.take ⟨20, 0, 0, 0, 0, 0, 0⟩ 0 2) = ⟨20, 2, 0, 0, 0, 0, 0⟩ := by kernel_rfl
theorem awake_B1 : (S.takes ⟨20, 0, 0, 0, 0, 0, 0⟩ 0 2) = true := by kernel_rfl
theorem awake_C0 : (S.take ⟨20, 2, 0, 0, 0, 0, 0⟩ 4 3) = ⟨20, 2, 0, 0, 0, 0, 0⟩ := by kernel_rfl
theorem awake_C1 : (S.takes ⟨20, 2, 0, 0, 0, 0, 0⟩ 4 3) = false := by kernel_rfl
theorem awake_D0 : (S.give ⟨20, 2, 0, 0, 0, 0, 0⟩ 0 1) = ⟨20, 1, 0, 0, 0, 0, 0⟩ := by kernel_rfl
theorem awake_D1 : (S.gives ⟨20, 2, 0, 0, 0, 0, 0⟩ 0 1) = true := by kernel_rfl
theorem awake_E0 : (S.give ⟨20, 1, 0, 0, 0, 0, 0⟩ 0 2) = ⟨20, 1, 0, 0, 0, 0, 0⟩ := by kernel_rfl
theorem awake_E1 : (S.gives ⟨20, 1, 0, 0, 0, 0, 0⟩ 0 2) = false := by kernel_rfl
theorem awake_F0 : (S.merge ⟨20, 1, 0, 0, 0, 0, 0⟩ ⟨20, 1, 0, 0, 0, 0, 0⟩) = ⟨20, 2, 0, 0, 0, 0, 0⟩ := by kernel_rfl
theorem awake_F1 : (S.mergeE ⟨20, 1, 0, 0, 0, 0, 0⟩ ⟨20, 1, 0, 0, 0, 0, 0⟩) = 0 := by kernel_rfl
theorem awake_G0 : (S.merge ⟨20, 2, 0, 0, 0, 0, 0⟩ ⟨20, 1, 0, 0, 0, 0, 0⟩) = ⟨0, 0, 0, 0, 0, 0, 0⟩ := by kernel_rfl
theorem awake_G1 : (S.mergeE ⟨20, 2, 0, 0, 0, 0, 0⟩ ⟨20, 1, 0, 0, 0, 0, 0⟩) = 7 := by kernel_rfl
theorem awake_H0 : (if (1:Int) ≤ 0 ∧ (0:Int) ≤ 4096 then (0:Int) else 0) = 0 := by kernel_rfl
theorem awake_H1 : (if (1:Int) ≤ 0 ∧ (0:Int) ≤ 4096 then (0:Int) else 8) = 8 := by kernel_rfl
theorem awake_t0 : S.left ⟨20, 2, 0, 0, 0, 0, 0⟩ = 4 := by kernel_rfl
theorem awake_t1 : S.load ⟨20, 2, 0, 0, 0, 0, 0⟩ = 80 := by kernel_rfl
theorem awake_t2 : S.total ⟨20, 2, 0, 0, 0, 0, 0⟩ = 16 := by kernel_rfl
theorem awake_t3 : S.fits ⟨20, 2, 0, 0, 0, 0, 0⟩ 4 9 = 2 := by kernel_rfl
theorem awake_t4 : S.total ⟨20, 1, 0, 0, 0, 0, 0⟩ = 8 := by kernel_rfl
theorem awake_t5 : S.check ⟨20, 2, 0, 0, 0, 0, 0⟩ = 0 := by kernel_rfl
theorem awake_t6 : S.check ⟨0, 0, 0, 0, 0, 0, 0⟩ = 8 := by kernel_rfl
theorem awake_t7 : costI 1 = 6 := by kernel_rfl
theorem awake_t8 : costI 3 = 3 := by kernel_rfl
theorem awake_t9 : costI 2 = 4 := by kernel_rfl
theorem awake_t10 : costI 5 = 1 := by kernel_rfl
theorem awake_t11 : costI 6 = 0 := by kernel_rfl

set_option maxRecDepth 100000 in
set_option maxHeartbeats 20000000 in
theorem awake_any (w : World) : Calls Try.prog 15 #[] w fun e w' => e = .returned (.bool true) ∧ Ext w w' := by
  go_enter Try.func15, Try.ntmps15
  go_wp2_with fail
  have x0 : Ext w w := Ext.refl w
  refine (new_any _ 20).mono ?_
  rintro e wA ⟨rfl, xA⟩
  rw [awake_A0, awake_A1]
  have x0 := x0.trans xA
  clear xA
  go_wp2_with fail
  obtain ⟨vA, hA⟩ : ∃ v, v = wA.alloc (.cells #[.int .i64 20, .int .i64 0, .int .i64 0, .int .i64 0, .int .i64 0, .int .i64 0, .int .i64 0] 26) := ⟨_, rfl⟩
  try rw [← hA]
  have x0 : Ext w vA := hA ▸ x0.al _
  have BA : Hid (Box vA wA.heap.size ⟨20, 0, 0, 0, 0, 0, 0⟩) := Lib.hid (hA ▸ Box.new wA 26 20 0 0 0 0 0 0)
  generalize wA.heap.size = bA at *
  clear hA
  refine (take_any _ 20 0 0 0 0 0 0 0 2).mono ?_
  rintro e wB ⟨rfl, xB⟩
  rw [awake_B0, awake_B1]
  have BA := Lib.hid (BA.out.ext xB)
  have x0 := x0.trans xB
  clear xB
  go_wp2_with fail
  obtain ⟨vB, hB⟩ : ∃ v, v = wB.alloc (.cells #[.int .i64 20, .int .i64 2, .int .i64 0, .int .i64 0, .int .i64 0, .int .i64 0, .int .i64 0] 26) := ⟨_, rfl⟩
  try rw [← hB]
  have x0 : Ext w vB := hB ▸ x0.al _
  have BB : Hid (Box vB wB.heap.size ⟨20, 2, 0, 0, 0, 0, 0⟩) := Lib.hid (hB ▸ Box.new wB 26 20 2 0 0 0 0 0)
  have BA : Hid (Box vB _ _) := Lib.hid (BA.out.ext (hB ▸ Ext.alloc wB _))
  generalize wB.heap.size = bB at *
  clear hB
  refine (take_any _ 20 2 0 0 0 0 0 4 3).mono ?_
  rintro e wC ⟨rfl, xC⟩
  rw [awake_C0, awake_C1]
  have BA := Lib.hid (BA.out.ext xC)
  have BB := Lib.hid (BB.out.ext xC)
  have x0 := x0.trans xC
  clear xC
  obtain ⟨B0, B1, B2, B3, B4, B5, B6⟩ := BB.out.cells
  have B0 := (Ext.alloc wC (.cells #[.int .i64 20, .int .i64 2, .int .i64 0, .int .i64 0, .int .i64 0, .int .i64 0, .int .i64 0] 26)).cell_some B0
  have B1 := (Ext.alloc wC (.cells #[.int .i64 20, .int .i64 2, .int .i64 0, .int .i64 0, .int .i64 0, .int .i64 0, .int .i64 0] 26)).cell_some B1
  have B2 := (Ext.alloc wC (.cells #[.int .i64 20, .int .i64 2, .int .i64 0, .int .i64 0, .int .i64 0, .int .i64 0, .int .i64 0] 26)).cell_some B2
  have B3 := (Ext.alloc wC (.cells #[.int .i64 20, .int .i64 2, .int .i64 0, .int .i64 0, .int .i64 0, .int .i64 0, .int .i64 0] 26)).cell_some B3
  have B4 := (Ext.alloc wC (.cells #[.int .i64 20, .int .i64 2, .int .i64 0, .int .i64 0, .int .i64 0, .int .i64 0, .int .i64 0] 26)).cell_some B4
  have B5 := (Ext.alloc wC (.cells #[.int .i64 20, .int .i64 2, .int .i64 0, .int .i64 0, .int .i64 0, .int .i64 0, .int .i64 0] 26)).cell_some B5
  have B6 := (Ext.alloc wC (.cells #[.int .i64 20, .int .i64 2, .int .i64 0, .int .i64 0, .int .i64 0, .int .i64 0, .int .i64 0] 26)).cell_some B6
  go_wp2_with fail
  obtain ⟨vC, hC⟩ : ∃ v, v = wC.alloc (.cells #[.int .i64 20, .int .i64 2, .int .i64 0, .int .i64 0, .int .i64 0, .int .i64 0, .int .i64 0] 26) := ⟨_, rfl⟩
  try rw [← hC]
  have x0 : Ext w vC := hC ▸ x0.al _
  have BC : Hid (Box vC wC.heap.size ⟨20, 2, 0, 0, 0, 0, 0⟩) := Lib.hid (hC ▸ Box.new wC 26 20 2 0 0 0 0 0)
  have BA : Hid (Box vC _ _) := Lib.hid (BA.out.ext (hC ▸ Ext.alloc wC _))
  have BB : Hid (Box vC _ _) := Lib.hid (BB.out.ext (hC ▸ Ext.alloc wC _))
  clear B0 B1 B2 B3 B4 B5 B6
  generalize wC.heap.size = bC at *
  clear hC
  refine (give_any _ 20 2 0 0 0 0 0 0 1).mono ?_
  rintro e wD ⟨rfl, xD⟩
  rw [awake_D0, awake_D1]
  have BA := Lib.hid (BA.out.ext xD)
  have BB := Lib.hid (BB.out.ext xD)
  have BC := Lib.hid (BC.out.ext xD)
  have x0 := x0.trans xD
  clear xD
  go_wp2_with fail
  obtain ⟨vD, hD⟩ : ∃ v, v = wD.alloc (.cells #[.int .i64 20, .int .i64 1, .int .i64 0, .int .i64 0, .int .i64 0, .int .i64 0, .int .i64 0] 26) := ⟨_, rfl⟩
  try rw [← hD]
  have x0 : Ext w vD := hD ▸ x0.al _
  have BD : Hid (Box vD wD.heap.size ⟨20, 1, 0, 0, 0, 0, 0⟩) := Lib.hid (hD ▸ Box.new wD 26 20 1 0 0 0 0 0)
  have BA : Hid (Box vD _ _) := Lib.hid (BA.out.ext (hD ▸ Ext.alloc wD _))
  have BB : Hid (Box vD _ _) := Lib.hid (BB.out.ext (hD ▸ Ext.alloc wD _))
  have BC : Hid (Box vD _ _) := Lib.hid (BC.out.ext (hD ▸ Ext.alloc wD _))
  generalize wD.heap.size = bD at *
  clear hD
  refine (give_any _ 20 1 0 0 0 0 0 0 2).mono ?_
  rintro e wE ⟨rfl, xE⟩
  rw [awake_E0, awake_E1]
  have BA := Lib.hid (BA.out.ext xE)
  have BB := Lib.hid (BB.out.ext xE)
  have BC := Lib.hid (BC.out.ext xE)
  have BD := Lib.hid (BD.out.ext xE)
  have x0 := x0.trans xE
  clear xE
  obtain ⟨D0, D1, D2, D3, D4, D5, D6⟩ := BD.out.cells
  have D0 := (Ext.alloc wE (.cells #[.int .i64 20, .int .i64 1, .int .i64 0, .int .i64 0, .int .i64 0, .int .i64 0, .int .i64 0] 26)).cell_some D0
  have D1 := (Ext.alloc wE (.cells #[.int .i64 20, .int .i64 1, .int .i64 0, .int .i64 0, .int .i64 0, .int .i64 0, .int .i64 0] 26)).cell_some D1
  have D2 := (Ext.alloc wE (.cells #[.int .i64 20, .int .i64 1, .int .i64 0, .int .i64 0, .int .i64 0, .int .i64 0, .int .i64 0] 26)).cell_some D2
  have D3 := (Ext.alloc wE (.cells #[.int .i64 20, .int .i64 1, .int .i64 0, .int .i64 0, .int .i64 0, .int .i64 0, .int .i64 0] 26)).cell_some D3
  have D4 := (Ext.alloc wE (.cells #[.int .i64 20, .int .i64 1, .int .i64 0, .int .i64 0, .int .i64 0, .int .i64 0, .int .i64 0] 26)).cell_some D4
  have D5 := (Ext.alloc wE (.cells #[.int .i64 20, .int .i64 1, .int .i64 0, .int .i64 0, .int .i64 0, .int .i64 0, .int .i64 0] 26)).cell_some D5
  have D6 := (Ext.alloc wE (.cells #[.int .i64 20, .int .i64 1, .int .i64 0, .int .i64 0, .int .i64 0, .int .i64 0, .int .i64 0] 26)).cell_some D6
  go_wp2_with fail
  obtain ⟨vE, hE⟩ : ∃ v, v = wE.alloc (.cells #[.int .i64 20, .int .i64 1, .int .i64 0, .int .i64 0, .int .i64 0, .int .i64 0, .int .i64 0] 26) := ⟨_, rfl⟩
  try rw [← hE]
  have x0 : Ext w vE := hE ▸ x0.al _
  have BE : Hid (Box vE wE.heap.size ⟨20, 1, 0, 0, 0, 0, 0⟩) := Lib.hid (hE ▸ Box.new wE 26 20 1 0 0 0 0 0)
  have BA : Hid (Box vE _ _) := Lib.hid (BA.out.ext (hE ▸ Ext.alloc wE _))
  have BB : Hid (Box vE _ _) := Lib.hid (BB.out.ext (hE ▸ Ext.alloc wE _))
  have BC : Hid (Box vE _ _) := Lib.hid (BC.out.ext (hE ▸ Ext.alloc wE _))
  have BD : Hid (Box vE _ _) := Lib.hid (BD.out.ext (hE ▸ Ext.alloc wE _))
  clear D0 D1 D2 D3 D4 D5 D6
  generalize wE.heap.size = bE at *
  clear hE
  refine (merge_any _ 20 1 0 0 0 0 0 20 1 0 0 0 0 0).mono ?_
  rintro e wF ⟨rfl, xF⟩
  rw [awake_F0, awake_F1]
  have BA := Lib.hid (BA.out.ext xF)
  have BB := Lib.hid (BB.out.ext xF)
  have BC := Lib.hid (BC.out.ext xF)
  have BD := Lib.hid (BD.out.ext xF)
  have BE := Lib.hid (BE.out.ext xF)
  have x0 := x0.trans xF
  clear xF
  obtain ⟨B0, B1, B2, B3, B4, B5, B6⟩ := BB.out.cells
  obtain ⟨D0, D1, D2, D3, D4, D5, D6⟩ := BD.out.cells
  have B0 := (Ext.alloc wF (.cells #[.int .i64 20, .int .i64 2, .int .i64 0, .int .i64 0, .int .i64 0, .int .i64 0, .int .i64 0] 26)).cell_some B0
  have B1 := (Ext.alloc wF (.cells #[.int .i64 20, .int .i64 2, .int .i64 0, .int .i64 0, .int .i64 0, .int .i64 0, .int .i64 0] 26)).cell_some B1
  have B2 := (Ext.alloc wF (.cells #[.int .i64 20, .int .i64 2, .int .i64 0, .int .i64 0, .int .i64 0, .int .i64 0, .int .i64 0] 26)).cell_some B2
  have B3 := (Ext.alloc wF (.cells #[.int .i64 20, .int .i64 2, .int .i64 0, .int .i64 0, .int .i64 0, .int .i64 0, .int .i64 0] 26)).cell_some B3
  have B4 := (Ext.alloc wF (.cells #[.int .i64 20, .int .i64 2, .int .i64 0, .int .i64 0, .int .i64 0, .int .i64 0, .int .i64 0] 26)).cell_some B4
  have B5 := (Ext.alloc wF (.cells #[.int .i64 20, .int .i64 2, .int .i64 0, .int .i64 0, .int .i64 0, .int .i64 0, .int .i64 0] 26)).cell_some B5
  have B6 := (Ext.alloc wF (.cells #[.int .i64 20, .int .i64 2, .int .i64 0, .int .i64 0, .int .i64 0, .int .i64 0, .int .i64 0] 26)).cell_some B6
  have D0 := (Ext.alloc wF (.cells #[.int .i64 20, .int .i64 2, .int .i64 0, .int .i64 0, .int .i64 0, .int .i64 0, .int .i64 0] 26)).cell_some D0
  have D1 := (Ext.alloc wF (.cells #[.int .i64 20, .int .i64 2, .int .i64 0, .int .i64 0, .int .i64 0, .int .i64 0, .int .i64 0] 26)).cell_some D1
  have D2 := (Ext.alloc wF (.cells #[.int .i64 20, .int .i64 2, .int .i64 0, .int .i64 0, .int .i64 0, .int .i64 0, .int .i64 0] 26)).cell_some D2
  have D3 := (Ext.alloc wF (.cells #[.int .i64 20, .int .i64 2, .int .i64 0, .int .i64 0, .int .i64 0, .int .i64 0, .int .i64 0] 26)).cell_some D3
  have D4 := (Ext.alloc wF (.cells #[.int .i64 20, .int .i64 2, .int .i64 0, .int .i64 0, .int .i64 0, .int .i64 0, .int .i64 0] 26)).cell_some D4
  have D5 := (Ext.alloc wF (.cells #[.int .i64 20, .int .i64 2, .int .i64 0, .int .i64 0, .int .i64 0, .int .i64 0, .int .i64 0] 26)).cell_some D5
  have D6 := (Ext.alloc wF (.cells #[.int .i64 20, .int .i64 2, .int .i64 0, .int .i64 0, .int .i64 0, .int .i64 0, .int .i64 0] 26)).cell_some D6
  go_wp2_with fail
  obtain ⟨vF, hF⟩ : ∃ v, v = wF.alloc (.cells #[.int .i64 20, .int .i64 2, .int .i64 0, .int .i64 0, .int .i64 0, .int .i64 0, .int .i64 0] 26) := ⟨_, rfl⟩
  try rw [← hF]
  have x0 : Ext w vF := hF ▸ x0.al _
  have BF : Hid (Box vF wF.heap.size ⟨20, 2, 0, 0, 0, 0, 0⟩) := Lib.hid (hF ▸ Box.new wF 26 20 2 0 0 0 0 0)
  have BA : Hid (Box vF _ _) := Lib.hid (BA.out.ext (hF ▸ Ext.alloc wF _))
  have BB : Hid (Box vF _ _) := Lib.hid (BB.out.ext (hF ▸ Ext.alloc wF _))
  have BC : Hid (Box vF _ _) := Lib.hid (BC.out.ext (hF ▸ Ext.alloc wF _))
  have BD : Hid (Box vF _ _) := Lib.hid (BD.out.ext (hF ▸ Ext.alloc wF _))
  have BE : Hid (Box vF _ _) := Lib.hid (BE.out.ext (hF ▸ Ext.alloc wF _))
  clear B0 B1 B2 B3 B4 B5 B6
  clear D0 D1 D2 D3 D4 D5 D6
  generalize wF.heap.size = bF at *
  clear hF
  refine (merge_any _ 20 2 0 0 0 0 0 20 1 0 0 0 0 0).mono ?_
  rintro e wG ⟨rfl, xG⟩
  rw [awake_G0, awake_G1]
  have BA := Lib.hid (BA.out.ext xG)
  have BB := Lib.hid (BB.out.ext xG)
  have BC := Lib.hid (BC.out.ext xG)
  have BD := Lib.hid (BD.out.ext xG)
  have BE := Lib.hid (BE.out.ext xG)
  have BF := Lib.hid (BF.out.ext xG)
  have x0 := x0.trans xG
  clear xG
  go_wp2_with fail
  obtain ⟨vG, hG⟩ : ∃ v, v = wG.alloc (.cells #[.int .i64 0, .int .i64 0, .int .i64 0, .int .i64 0, .int .i64 0, .int .i64 0, .int .i64 0] 26) := ⟨_, rfl⟩
  try rw [← hG]
  have x0 : Ext w vG := hG ▸ x0.al _
  have BG : Hid (Box vG wG.heap.size ⟨0, 0, 0, 0, 0, 0, 0⟩) := Lib.hid (hG ▸ Box.new wG 26 0 0 0 0 0 0 0)
  have BA : Hid (Box vG _ _) := Lib.hid (BA.out.ext (hG ▸ Ext.alloc wG _))
  have BB : Hid (Box vG _ _) := Lib.hid (BB.out.ext (hG ▸ Ext.alloc wG _))
  have BC : Hid (Box vG _ _) := Lib.hid (BC.out.ext (hG ▸ Ext.alloc wG _))
  have BD : Hid (Box vG _ _) := Lib.hid (BD.out.ext (hG ▸ Ext.alloc wG _))
  have BE : Hid (Box vG _ _) := Lib.hid (BE.out.ext (hG ▸ Ext.alloc wG _))
  have BF : Hid (Box vG _ _) := Lib.hid (BF.out.ext (hG ▸ Ext.alloc wG _))
  generalize wG.heap.size = bG at *
  clear hG
  refine (new_any _ 0).mono ?_
  rintro e wH ⟨rfl, xH⟩
  rw [awake_H0, awake_H1]
  have BA := Lib.hid (BA.out.ext xH)
  have BB := Lib.hid (BB.out.ext xH)
  have BC := Lib.hid (BC.out.ext xH)
  have BD := Lib.hid (BD.out.ext xH)
  have BE := Lib.hid (BE.out.ext xH)
  have BF := Lib.hid (BF.out.ext xH)
  have BG := Lib.hid (BG.out.ext xH)
  have x0 := x0.trans xH
  clear xH
  obtain ⟨B0, B1, B2, B3, B4, B5, B6⟩ := BB.out.cells
  have B0 := (Ext.alloc wH (.cells #[.int .i64 0, .int .i64 0, .int .i64 0, .int .i64 0, .int .i64 0, .int .i64 0, .int .i64 0] 26)).cell_some B0
  have B1 := (Ext.alloc wH (.cells #[.int .i64 0, .int .i64 0, .int .i64 0, .int .i64 0, .int .i64 0, .int .i64 0, .int .i64 0] 26)).cell_some B1
  have B2 := (Ext.alloc wH (.cells #[.int .i64 0, .int .i64 0, .int .i64 0, .int .i64 0, .int .i64 0, .int .i64 0, .int .i64 0] 26)).cell_some B2
  have B3 := (Ext.alloc wH (.cells #[.int .i64 0, .int .i64 0, .int .i64 0, .int .i64 0, .int .i64 0, .int .i64 0, .int .i64 0] 26)).cell_some B3
  have B4 := (Ext.alloc wH (.cells #[.int .i64 0, .int .i64 0, .int .i64 0, .int .i64 0, .int .i64 0, .int .i64 0, .int .i64 0] 26)).cell_some B4
  have B5 := (Ext.alloc wH (.cells #[.int .i64 0, .int .i64 0, .int .i64 0, .int .i64 0, .int .i64 0, .int .i64 0, .int .i64 0] 26)).cell_some B5
  have B6 := (Ext.alloc wH (.cells #[.int .i64 0, .int .i64 0, .int .i64 0, .int .i64 0, .int .i64 0, .int .i64 0, .int .i64 0] 26)).cell_some B6
  go_wp2_with fail
  obtain ⟨vH, hH⟩ : ∃ v, v = wH.alloc (.cells #[.int .i64 0, .int .i64 0, .int .i64 0, .int .i64 0, .int .i64 0, .int .i64 0, .int .i64 0] 26) := ⟨_, rfl⟩
  try rw [← hH]
  have x0 : Ext w vH := hH ▸ x0.al _
  have BH : Hid (Box vH wH.heap.size ⟨0, 0, 0, 0, 0, 0, 0⟩) := Lib.hid (hH ▸ Box.new wH 26 0 0 0 0 0 0 0)
  have BA : Hid (Box vH _ _) := Lib.hid (BA.out.ext (hH ▸ Ext.alloc wH _))
  have BB : Hid (Box vH _ _) := Lib.hid (BB.out.ext (hH ▸ Ext.alloc wH _))
  have BC : Hid (Box vH _ _) := Lib.hid (BC.out.ext (hH ▸ Ext.alloc wH _))
  have BD : Hid (Box vH _ _) := Lib.hid (BD.out.ext (hH ▸ Ext.alloc wH _))
  have BE : Hid (Box vH _ _) := Lib.hid (BE.out.ext (hH ▸ Ext.alloc wH _))
  have BF : Hid (Box vH _ _) := Lib.hid (BF.out.ext (hH ▸ Ext.alloc wH _))
  have BG : Hid (Box vH _ _) := Lib.hid (BG.out.ext (hH ▸ Ext.alloc wH _))
  clear B0 B1 B2 B3 B4 B5 B6
  generalize wH.heap.size = bH at *
  clear hH
  refine (left_any _ 20 2 0 0 0 0 0).mono ?_
  rintro e u0 ⟨rfl, y0⟩
  rw [awake_t0]
  have BB := Lib.hid (BB.out.ext y0)
  have BD := Lib.hid (BD.out.ext y0)
  have BF := Lib.hid (BF.out.ext y0)
  have x0 := x0.trans y0
  clear y0
  obtain ⟨B0, B1, B2, B3, B4, B5, B6⟩ := BB.out.cells
  obtain ⟨D0, D1, D2, D3, D4, D5, D6⟩ := BD.out.cells
  obtain ⟨F0, F1, F2, F3, F4, F5, F6⟩ := BF.out.cells
  go_wp2_with fail
  clear B0 B1 B2 B3 B4 B5 B6 D0 D1 D2 D3 D4 D5 D6 F0 F1 F2 F3 F4 F5 F6
  refine (load_any _ 20 2 0 0 0 0 0).mono ?_
  rintro e u1 ⟨rfl, y1⟩
  rw [awake_t1]
  have BB := Lib.hid (BB.out.ext y1)
  have BD := Lib.hid (BD.out.ext y1)
  have BF := Lib.hid (BF.out.ext y1)
  have x0 := x0.trans y1
  clear y1
  obtain ⟨B0, B1, B2, B3, B4, B5, B6⟩ := BB.out.cells
  obtain ⟨D0, D1, D2, D3, D4, D5, D6⟩ := BD.out.cells
  obtain ⟨F0, F1, F2, F3, F4, F5, F6⟩ := BF.out.cells
  go_wp2_with fail
  clear B0 B1 B2 B3 B4 B5 B6 D0 D1 D2 D3 D4 D5 D6 F0 F1 F2 F3 F4 F5 F6
  refine (total_any _ 20 2 0 0 0 0 0).mono ?_
  rintro e u2 ⟨rfl, y2⟩
  rw [awake_t2]
  have BB := Lib.hid (BB.out.ext y2)
  have BD := Lib.hid (BD.out.ext y2)
  have BF := Lib.hid (BF.out.ext y2)
  have x0 := x0.trans y2
  clear y2
  obtain ⟨B0, B1, B2, B3, B4, B5, B6⟩ := BB.out.cells
  obtain ⟨D0, D1, D2, D3, D4, D5, D6⟩ := BD.out.cells
  obtain ⟨F0, F1, F2, F3, F4, F5, F6⟩ := BF.out.cells
  go_wp2_with fail
  clear B0 B1 B2 B3 B4 B5 B6 D0 D1 D2 D3 D4 D5 D6 F0 F1 F2 F3 F4 F5 F6
  refine (fits_any _ 20 2 0 0 0 0 0 4 9).mono ?_
  rintro e u3 ⟨rfl, y3⟩
  rw [awake_t3]
  have BB := Lib.hid (BB.out.ext y3)
  have BD := Lib.hid (BD.out.ext y3)
  have BF := Lib.hid (BF.out.ext y3)
  have x0 := x0.trans y3
  clear y3
  obtain ⟨B0, B1, B2, B3, B4, B5, B6⟩ := BB.out.cells
  obtain ⟨D0, D1, D2, D3, D4, D5, D6⟩ := BD.out.cells
  obtain ⟨F0, F1, F2, F3, F4, F5, F6⟩ := BF.out.cells
  go_wp2_with fail
  clear B0 B1 B2 B3 B4 B5 B6 D0 D1 D2 D3 D4 D5 D6 F0 F1 F2 F3 F4 F5 F6
  refine (total_any _ 20 1 0 0 0 0 0).mono ?_
  rintro e u4 ⟨rfl, y4⟩
  rw [awake_t4]
  have BB := Lib.hid (BB.out.ext y4)
  have BD := Lib.hid (BD.out.ext y4)
  have BF := Lib.hid (BF.out.ext y4)
  have x0 := x0.trans y4
  clear y4
  obtain ⟨B0, B1, B2, B3, B4, B5, B6⟩ := BB.out.cells
  obtain ⟨D0, D1, D2, D3, D4, D5, D6⟩ := BD.out.cells
  obtain ⟨F0, F1, F2, F3, F4, F5, F6⟩ := BF.out.cells
  go_wp2_with fail
  clear B0 B1 B2 B3 B4 B5 B6 D0 D1 D2 D3 D4 D5 D6 F0 F1 F2 F3 F4 F5 F6
  refine (check_any _ 20 2 0 0 0 0 0).mono ?_
  rintro e u5 ⟨rfl, y5⟩
  rw [awake_t5]
  have BB := Lib.hid (BB.out.ext y5)
  have BD := Lib.hid (BD.out.ext y5)
  have BF := Lib.hid (BF.out.ext y5)
  have x0 := x0.trans y5
  clear y5
  obtain ⟨B0, B1, B2, B3, B4, B5, B6⟩ := BB.out.cells
  obtain ⟨D0, D1, D2, D3, D4, D5, D6⟩ := BD.out.cells
  obtain ⟨F0, F1, F2, F3, F4, F5, F6⟩ := BF.out.cells
  go_wp2_with fail
  clear B0 B1 B2 B3 B4 B5 B6 D0 D1 D2 D3 D4 D5 D6 F0 F1 F2 F3 F4 F5 F6
  refine (check_any _ 0 0 0 0 0 0 0).mono ?_
  rintro e u6 ⟨rfl, y6⟩
  rw [awake_t6]
  have BB := Lib.hid (BB.out.ext y6)
  have BD := Lib.hid (BD.out.ext y6)
  have BF := Lib.hid (BF.out.ext y6)
  have x0 := x0.trans y6
  clear y6
  obtain ⟨B0, B1, B2, B3, B4, B5, B6⟩ := BB.out.cells
  obtain ⟨D0, D1, D2, D3, D4, D5, D6⟩ := BD.out.cells
  obtain ⟨F0, F1, F2, F3, F4, F5, F6⟩ := BF.out.cells
  go_wp2_with fail
  clear B0 B1 B2 B3 B4 B5 B6 D0 D1 D2 D3 D4 D5 D6 F0 F1 F2 F3 F4 F5 F6
  refine (cost_any _ 1).mono ?_
  rintro e u7 ⟨rfl, y7⟩
  rw [awake_t7]
  have BB := Lib.hid (BB.out.ext y7)
  have BD := Lib.hid (BD.out.ext y7)
  have BF := Lib.hid (BF.out.ext y7)
  have x0 := x0.trans y7
  clear y7
  obtain ⟨B0, B1, B2, B3, B4, B5, B6⟩ := BB.out.cells
  obtain ⟨D0, D1, D2, D3, D4, D5, D6⟩ := BD.out.cells
  obtain ⟨F0, F1, F2, F3, F4, F5, F6⟩ := BF.out.cells
  go_wp2_with fail
  clear B0 B1 B2 B3 B4 B5 B6 D0 D1 D2 D3 D4 D5 D6 F0 F1 F2 F3 F4 F5 F6
  refine (cost_any _ 3).mono ?_
  rintro e u8 ⟨rfl, y8⟩
  rw [awake_t8]
  have BB := Lib.hid (BB.out.ext y8)
  have BD := Lib.hid (BD.out.ext y8)
  have BF := Lib.hid (BF.out.ext y8)
  have x0 := x0.trans y8
  clear y8
  obtain ⟨B0, B1, B2, B3, B4, B5, B6⟩ := BB.out.cells
  obtain ⟨D0, D1, D2, D3, D4, D5, D6⟩ := BD.out.cells
  obtain ⟨F0, F1, F2, F3, F4, F5, F6⟩ := BF.out.cells
  go_wp2_with fail
  clear B0 B1 B2 B3 B4 B5 B6 D0 D1 D2 D3 D4 D5 D6 F0 F1 F2 F3 F4 F5 F6
  refine (cost_any _ 2).mono ?_
  rintro e u9 ⟨rfl, y9⟩
  rw [awake_t9]
  have BB := Lib.hid (BB.out.ext y9)
  have BD := Lib.hid (BD.out.ext y9)
  have BF := Lib.hid (BF.out.ext y9)
  have x0 := x0.trans y9
  clear y9
  obtain ⟨B0, B1, B2, B3, B4, B5, B6⟩ := BB.out.cells
  obtain ⟨D0, D1, D2, D3, D4, D5, D6⟩ := BD.out.cells
  obtain ⟨F0, F1, F2, F3, F4, F5, F6⟩ := BF.out.cells
  go_wp2_with fail
  clear B0 B1 B2 B3 B4 B5 B6 D0 D1 D2 D3 D4 D5 D6 F0 F1 F2 F3 F4 F5 F6
  refine (cost_any _ 5).mono ?_
  rintro e u10 ⟨rfl, y10⟩
  rw [awake_t10]
  have BB := Lib.hid (BB.out.ext y10)
  have BD := Lib.hid (BD.out.ext y10)
  have BF := Lib.hid (BF.out.ext y10)
  have x0 := x0.trans y10
  clear y10
  obtain ⟨B0, B1, B2, B3, B4, B5, B6⟩ := BB.out.cells
  obtain ⟨D0, D1, D2, D3, D4, D5, D6⟩ := BD.out.cells
  obtain ⟨F0, F1, F2, F3, F4, F5, F6⟩ := BF.out.cells
  go_wp2_with fail
  clear B0 B1 B2 B3 B4 B5 B6 D0 D1 D2 D3 D4 D5 D6 F0 F1 F2 F3 F4 F5 F6
  refine (cost_any _ 6).mono ?_
  rintro e u11 ⟨rfl, y11⟩
  rw [awake_t11]
  have BB := Lib.hid (BB.out.ext y11)
  have BD := Lib.hid (BD.out.ext y11)
  have BF := Lib.hid (BF.out.ext y11)
  have x0 := x0.trans y11
  clear y11
  obtain ⟨B0, B1, B2, B3, B4, B5, B6⟩ := BB.out.cells
  obtain ⟨D0, D1, D2, D3, D4, D5, D6⟩ := BD.out.cells
  obtain ⟨F0, F1, F2, F3, F4, F5, F6⟩ := BF.out.cells
  go_wp2_with fail
  clear B0 B1 B2 B3 B4 B5 B6 D0 D1 D2 D3 D4 D5 D6 F0 F1 F2 F3 F4 F5 F6
  go_ret
  exact ⟨rfl, x0⟩

end Go.Proofs.Ytnldfglgdchinaa
