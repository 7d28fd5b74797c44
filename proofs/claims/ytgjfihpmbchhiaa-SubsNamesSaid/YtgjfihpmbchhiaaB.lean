/- What is said by this side, and by the other one. -/
import Derived.Test.YtgjfihpmbchhiaaA
namespace Go.Proofs.Ytgjfihpmbchhiaa
set_option linter.unusedSimpArgs false
set_option linter.unusedVariables false
open Go.RowKit

@[go_sem] theorem chk_0 : chk 0 = 0 := by rfl
@[go_sem] theorem chk_1 : chk 1 = 0 := by rfl
@[go_sem] theorem chk_2 : chk 2 = 0 := by rfl
@[go_sem] theorem chk_3 : chk 3 = 0 := by rfl
@[go_sem] theorem chk_4 : chk 4 = 0 := by rfl
@[go_sem] theorem chk_5 : chk 5 = 4 := by rfl
@[go_sem] theorem chk_6 : chk 6 = 0 := by rfl
@[go_sem] theorem chk_7 : chk 7 = 4 := by rfl
@[go_sem] theorem chk_8 : chk 8 = 0 := by rfl
@[go_sem] theorem chk_9 : chk 9 = 0 := by rfl
@[go_sem] theorem chk_10 : chk 10 = 4 := by rfl
@[go_sem] theorem chk_11 : chk 11 = 4 := by rfl
@[go_sem] theorem chk_12 : chk 12 = 0 := by rfl
@[go_sem] theorem chk_13 : chk 13 = 4 := by rfl
@[go_sem] theorem chk_14 : chk 14 = 4 := by rfl
@[go_sem] theorem chk_15 : chk 15 = 4 := by rfl
@[go_sem] theorem bits_and_0_1 : bits .and .i64 0 1 = 0 := by kernel_rfl
@[go_sem] theorem bits_and_0_3 : bits .and .i64 0 3 = 0 := by kernel_rfl
@[go_sem] theorem bits_and_0_4 : bits .and .i64 0 4 = 0 := by kernel_rfl
@[go_sem] theorem bits_and_0_5 : bits .and .i64 0 5 = 0 := by kernel_rfl
@[go_sem] theorem bits_and_0_8 : bits .and .i64 0 8 = 0 := by kernel_rfl
@[go_sem] theorem bits_and_0_10 : bits .and .i64 0 10 = 0 := by kernel_rfl
@[go_sem] theorem bits_and_0_12 : bits .and .i64 0 12 = 0 := by kernel_rfl
@[go_sem] theorem bits_and_1_1 : bits .and .i64 1 1 = 1 := by kernel_rfl
@[go_sem] theorem bits_and_1_3 : bits .and .i64 1 3 = 1 := by kernel_rfl
@[go_sem] theorem bits_and_1_4 : bits .and .i64 1 4 = 0 := by kernel_rfl
@[go_sem] theorem bits_and_1_5 : bits .and .i64 1 5 = 1 := by kernel_rfl
@[go_sem] theorem bits_and_1_8 : bits .and .i64 1 8 = 0 := by kernel_rfl
@[go_sem] theorem bits_and_1_10 : bits .and .i64 1 10 = 0 := by kernel_rfl
@[go_sem] theorem bits_and_1_12 : bits .and .i64 1 12 = 0 := by kernel_rfl
@[go_sem] theorem bits_and_2_1 : bits .and .i64 2 1 = 0 := by kernel_rfl
@[go_sem] theorem bits_and_2_3 : bits .and .i64 2 3 = 2 := by kernel_rfl
@[go_sem] theorem bits_and_2_4 : bits .and .i64 2 4 = 0 := by kernel_rfl
@[go_sem] theorem bits_and_2_5 : bits .and .i64 2 5 = 0 := by kernel_rfl
@[go_sem] theorem bits_and_2_8 : bits .and .i64 2 8 = 0 := by kernel_rfl
@[go_sem] theorem bits_and_2_10 : bits .and .i64 2 10 = 2 := by kernel_rfl
@[go_sem] theorem bits_and_2_12 : bits .and .i64 2 12 = 0 := by kernel_rfl
@[go_sem] theorem bits_and_3_1 : bits .and .i64 3 1 = 1 := by kernel_rfl
@[go_sem] theorem bits_and_3_3 : bits .and .i64 3 3 = 3 := by kernel_rfl
@[go_sem] theorem bits_and_3_4 : bits .and .i64 3 4 = 0 := by kernel_rfl
@[go_sem] theorem bits_and_3_5 : bits .and .i64 3 5 = 1 := by kernel_rfl
@[go_sem] theorem bits_and_3_8 : bits .and .i64 3 8 = 0 := by kernel_rfl
@[go_sem] theorem bits_and_3_10 : bits .and .i64 3 10 = 2 := by kernel_rfl
@[go_sem] theorem bits_and_3_12 : bits .and .i64 3 12 = 0 := by kernel_rfl
@[go_sem] theorem bits_and_4_1 : bits .and .i64 4 1 = 0 := by kernel_rfl
@[go_sem] theorem bits_and_4_3 : bits .and .i64 4 3 = 0 := by kernel_rfl
@[go_sem] theorem bits_and_4_4 : bits .and .i64 4 4 = 4 := by kernel_rfl
@[go_sem] theorem bits_and_4_5 : bits .and .i64 4 5 = 4 := by kernel_rfl
@[go_sem] theorem bits_and_4_8 : bits .and .i64 4 8 = 0 := by kernel_rfl
@[go_sem] theorem bits_and_4_10 : bits .and .i64 4 10 = 0 := by kernel_rfl
@[go_sem] theorem bits_and_4_12 : bits .and .i64 4 12 = 4 := by kernel_rfl
@[go_sem] theorem bits_and_5_1 : bits .and .i64 5 1 = 1 := by kernel_rfl
@[go_sem] theorem bits_and_5_3 : bits .and .i64 5 3 = 1 := by kernel_rfl
@[go_sem] theorem bits_and_5_4 : bits .and .i64 5 4 = 4 := by kernel_rfl
@[go_sem] theorem bits_and_5_5 : bits .and .i64 5 5 = 5 := by kernel_rfl
@[go_sem] theorem bits_and_5_8 : bits .and .i64 5 8 = 0 := by kernel_rfl
@[go_sem] theorem bits_and_5_10 : bits .and .i64 5 10 = 0 := by kernel_rfl
@[go_sem] theorem bits_and_5_12 : bits .and .i64 5 12 = 4 := by kernel_rfl
@[go_sem] theorem bits_and_6_1 : bits .and .i64 6 1 = 0 := by kernel_rfl
@[go_sem] theorem bits_and_6_3 : bits .and .i64 6 3 = 2 := by kernel_rfl
@[go_sem] theorem bits_and_6_4 : bits .and .i64 6 4 = 4 := by kernel_rfl
@[go_sem] theorem bits_and_6_5 : bits .and .i64 6 5 = 4 := by kernel_rfl
@[go_sem] theorem bits_and_6_8 : bits .and .i64 6 8 = 0 := by kernel_rfl
@[go_sem] theorem bits_and_6_10 : bits .and .i64 6 10 = 2 := by kernel_rfl
@[go_sem] theorem bits_and_6_12 : bits .and .i64 6 12 = 4 := by kernel_rfl
@[go_sem] theorem bits_and_7_1 : bits .and .i64 7 1 = 1 := by kernel_rfl
@[go_sem] theorem bits_and_7_3 : bits .and .i64 7 3 = 3 := by kernel_rfl
@[go_sem] theorem bits_and_7_4 : bits .and .i64 7 4 = 4 := by kernel_rfl
@[go_sem] theorem bits_and_7_5 : bits .and .i64 7 5 = 5 := by kernel_rfl
@[go_sem] theorem bits_and_7_8 : bits .and .i64 7 8 = 0 := by kernel_rfl
@[go_sem] theorem bits_and_7_10 : bits .and .i64 7 10 = 2 := by kernel_rfl
@[go_sem] theorem bits_and_7_12 : bits .and .i64 7 12 = 4 := by kernel_rfl
@[go_sem] theorem bits_and_8_1 : bits .and .i64 8 1 = 0 := by kernel_rfl
@[go_sem] theorem bits_and_8_3 : bits .and .i64 8 3 = 0 := by kernel_rfl
@[go_sem] theorem bits_and_8_4 : bits .and .i64 8 4 = 0 := by kernel_rfl
@[go_sem] theorem bits_and_8_5 : bits .and .i64 8 5 = 0 := by kernel_rfl
@[go_sem] theorem bits_and_8_8 : bits .and .i64 8 8 = 8 := by kernel_rfl
@[go_sem] theorem bits_and_8_10 : bits .and .i64 8 10 = 8 := by kernel_rfl
@[go_sem] theorem bits_and_8_12 : bits .and .i64 8 12 = 8 := by kernel_rfl
@[go_sem] theorem bits_and_9_1 : bits .and .i64 9 1 = 1 := by kernel_rfl
@[go_sem] theorem bits_and_9_3 : bits .and .i64 9 3 = 1 := by kernel_rfl
@[go_sem] theorem bits_and_9_4 : bits .and .i64 9 4 = 0 := by kernel_rfl
@[go_sem] theorem bits_and_9_5 : bits .and .i64 9 5 = 1 := by kernel_rfl
@[go_sem] theorem bits_and_9_8 : bits .and .i64 9 8 = 8 := by kernel_rfl
@[go_sem] theorem bits_and_9_10 : bits .and .i64 9 10 = 8 := by kernel_rfl
@[go_sem] theorem bits_and_9_12 : bits .and .i64 9 12 = 8 := by kernel_rfl
@[go_sem] theorem bits_and_10_1 : bits .and .i64 10 1 = 0 := by kernel_rfl
@[go_sem] theorem bits_and_10_3 : bits .and .i64 10 3 = 2 := by kernel_rfl
@[go_sem] theorem bits_and_10_4 : bits .and .i64 10 4 = 0 := by kernel_rfl
@[go_sem] theorem bits_and_10_5 : bits .and .i64 10 5 = 0 := by kernel_rfl
@[go_sem] theorem bits_and_10_8 : bits .and .i64 10 8 = 8 := by kernel_rfl
@[go_sem] theorem bits_and_10_10 : bits .and .i64 10 10 = 10 := by kernel_rfl
@[go_sem] theorem bits_and_10_12 : bits .and .i64 10 12 = 8 := by kernel_rfl
@[go_sem] theorem bits_and_11_1 : bits .and .i64 11 1 = 1 := by kernel_rfl
@[go_sem] theorem bits_and_11_3 : bits .and .i64 11 3 = 3 := by kernel_rfl
@[go_sem] theorem bits_and_11_4 : bits .and .i64 11 4 = 0 := by kernel_rfl
@[go_sem] theorem bits_and_11_5 : bits .and .i64 11 5 = 1 := by kernel_rfl
@[go_sem] theorem bits_and_11_8 : bits .and .i64 11 8 = 8 := by kernel_rfl
@[go_sem] theorem bits_and_11_10 : bits .and .i64 11 10 = 10 := by kernel_rfl
@[go_sem] theorem bits_and_11_12 : bits .and .i64 11 12 = 8 := by kernel_rfl
@[go_sem] theorem bits_and_12_1 : bits .and .i64 12 1 = 0 := by kernel_rfl
@[go_sem] theorem bits_and_12_3 : bits .and .i64 12 3 = 0 := by kernel_rfl
@[go_sem] theorem bits_and_12_4 : bits .and .i64 12 4 = 4 := by kernel_rfl
@[go_sem] theorem bits_and_12_5 : bits .and .i64 12 5 = 4 := by kernel_rfl
@[go_sem] theorem bits_and_12_8 : bits .and .i64 12 8 = 8 := by kernel_rfl
@[go_sem] theorem bits_and_12_10 : bits .and .i64 12 10 = 8 := by kernel_rfl
@[go_sem] theorem bits_and_12_12 : bits .and .i64 12 12 = 12 := by kernel_rfl
@[go_sem] theorem bits_and_13_1 : bits .and .i64 13 1 = 1 := by kernel_rfl
@[go_sem] theorem bits_and_13_3 : bits .and .i64 13 3 = 1 := by kernel_rfl
@[go_sem] theorem bits_and_13_4 : bits .and .i64 13 4 = 4 := by kernel_rfl
@[go_sem] theorem bits_and_13_5 : bits .and .i64 13 5 = 5 := by kernel_rfl
@[go_sem] theorem bits_and_13_8 : bits .and .i64 13 8 = 8 := by kernel_rfl
@[go_sem] theorem bits_and_13_10 : bits .and .i64 13 10 = 8 := by kernel_rfl
@[go_sem] theorem bits_and_13_12 : bits .and .i64 13 12 = 12 := by kernel_rfl
@[go_sem] theorem bits_and_14_1 : bits .and .i64 14 1 = 0 := by kernel_rfl
@[go_sem] theorem bits_and_14_3 : bits .and .i64 14 3 = 2 := by kernel_rfl
@[go_sem] theorem bits_and_14_4 : bits .and .i64 14 4 = 4 := by kernel_rfl
@[go_sem] theorem bits_and_14_5 : bits .and .i64 14 5 = 4 := by kernel_rfl
@[go_sem] theorem bits_and_14_8 : bits .and .i64 14 8 = 8 := by kernel_rfl
@[go_sem] theorem bits_and_14_10 : bits .and .i64 14 10 = 10 := by kernel_rfl
@[go_sem] theorem bits_and_14_12 : bits .and .i64 14 12 = 12 := by kernel_rfl
@[go_sem] theorem bits_and_15_1 : bits .and .i64 15 1 = 1 := by kernel_rfl
@[go_sem] theorem bits_and_15_3 : bits .and .i64 15 3 = 3 := by kernel_rfl
@[go_sem] theorem bits_and_15_4 : bits .and .i64 15 4 = 4 := by kernel_rfl
@[go_sem] theorem bits_and_15_5 : bits .and .i64 15 5 = 5 := by kernel_rfl
@[go_sem] theorem bits_and_15_8 : bits .and .i64 15 8 = 8 := by kernel_rfl
@[go_sem] theorem bits_and_15_10 : bits .and .i64 15 10 = 10 := by kernel_rfl
@[go_sem] theorem bits_and_15_12 : bits .and .i64 15 12 = 12 := by kernel_rfl
@[go_sem] theorem bits_andNot_0_4 : bits .andNot .i64 0 4 = 0 := by kernel_rfl
@[go_sem] theorem bits_andNot_0_5 : bits .andNot .i64 0 5 = 0 := by kernel_rfl
@[go_sem] theorem bits_andNot_0_8 : bits .andNot .i64 0 8 = 0 := by kernel_rfl
@[go_sem] theorem bits_andNot_0_10 : bits .andNot .i64 0 10 = 0 := by kernel_rfl
@[go_sem] theorem bits_andNot_1_4 : bits .andNot .i64 1 4 = 1 := by kernel_rfl
@[go_sem] theorem bits_andNot_1_5 : bits .andNot .i64 1 5 = 0 := by kernel_rfl
@[go_sem] theorem bits_andNot_1_8 : bits .andNot .i64 1 8 = 1 := by kernel_rfl
@[go_sem] theorem bits_andNot_1_10 : bits .andNot .i64 1 10 = 1 := by kernel_rfl
@[go_sem] theorem bits_andNot_2_4 : bits .andNot .i64 2 4 = 2 := by kernel_rfl
@[go_sem] theorem bits_andNot_2_5 : bits .andNot .i64 2 5 = 2 := by kernel_rfl
@[go_sem] theorem bits_andNot_2_8 : bits .andNot .i64 2 8 = 2 := by kernel_rfl
@[go_sem] theorem bits_andNot_2_10 : bits .andNot .i64 2 10 = 0 := by kernel_rfl
@[go_sem] theorem bits_andNot_3_4 : bits .andNot .i64 3 4 = 3 := by kernel_rfl
@[go_sem] theorem bits_andNot_3_5 : bits .andNot .i64 3 5 = 2 := by kernel_rfl
@[go_sem] theorem bits_andNot_3_8 : bits .andNot .i64 3 8 = 3 := by kernel_rfl
@[go_sem] theorem bits_andNot_3_10 : bits .andNot .i64 3 10 = 1 := by kernel_rfl
@[go_sem] theorem bits_andNot_4_4 : bits .andNot .i64 4 4 = 0 := by kernel_rfl
@[go_sem] theorem bits_andNot_4_5 : bits .andNot .i64 4 5 = 0 := by kernel_rfl
@[go_sem] theorem bits_andNot_4_8 : bits .andNot .i64 4 8 = 4 := by kernel_rfl
@[go_sem] theorem bits_andNot_4_10 : bits .andNot .i64 4 10 = 4 := by kernel_rfl
@[go_sem] theorem bits_andNot_5_4 : bits .andNot .i64 5 4 = 1 := by kernel_rfl
@[go_sem] theorem bits_andNot_5_5 : bits .andNot .i64 5 5 = 0 := by kernel_rfl
@[go_sem] theorem bits_andNot_5_8 : bits .andNot .i64 5 8 = 5 := by kernel_rfl
@[go_sem] theorem bits_andNot_5_10 : bits .andNot .i64 5 10 = 5 := by kernel_rfl
@[go_sem] theorem bits_andNot_6_4 : bits .andNot .i64 6 4 = 2 := by kernel_rfl
@[go_sem] theorem bits_andNot_6_5 : bits .andNot .i64 6 5 = 2 := by kernel_rfl
@[go_sem] theorem bits_andNot_6_8 : bits .andNot .i64 6 8 = 6 := by kernel_rfl
@[go_sem] theorem bits_andNot_6_10 : bits .andNot .i64 6 10 = 4 := by kernel_rfl
@[go_sem] theorem bits_andNot_7_4 : bits .andNot .i64 7 4 = 3 := by kernel_rfl
@[go_sem] theorem bits_andNot_7_5 : bits .andNot .i64 7 5 = 2 := by kernel_rfl
@[go_sem] theorem bits_andNot_7_8 : bits .andNot .i64 7 8 = 7 := by kernel_rfl
@[go_sem] theorem bits_andNot_7_10 : bits .andNot .i64 7 10 = 5 := by kernel_rfl
@[go_sem] theorem bits_andNot_8_4 : bits .andNot .i64 8 4 = 8 := by kernel_rfl
@[go_sem] theorem bits_andNot_8_5 : bits .andNot .i64 8 5 = 8 := by kernel_rfl
@[go_sem] theorem bits_andNot_8_8 : bits .andNot .i64 8 8 = 0 := by kernel_rfl
@[go_sem] theorem bits_andNot_8_10 : bits .andNot .i64 8 10 = 0 := by kernel_rfl
@[go_sem] theorem bits_andNot_9_4 : bits .andNot .i64 9 4 = 9 := by kernel_rfl
@[go_sem] theorem bits_andNot_9_5 : bits .andNot .i64 9 5 = 8 := by kernel_rfl
@[go_sem] theorem bits_andNot_9_8 : bits .andNot .i64 9 8 = 1 := by kernel_rfl
@[go_sem] theorem bits_andNot_9_10 : bits .andNot .i64 9 10 = 1 := by kernel_rfl
@[go_sem] theorem bits_andNot_10_4 : bits .andNot .i64 10 4 = 10 := by kernel_rfl
@[go_sem] theorem bits_andNot_10_5 : bits .andNot .i64 10 5 = 10 := by kernel_rfl
@[go_sem] theorem bits_andNot_10_8 : bits .andNot .i64 10 8 = 2 := by kernel_rfl
@[go_sem] theorem bits_andNot_10_10 : bits .andNot .i64 10 10 = 0 := by kernel_rfl
@[go_sem] theorem bits_andNot_11_4 : bits .andNot .i64 11 4 = 11 := by kernel_rfl
@[go_sem] theorem bits_andNot_11_5 : bits .andNot .i64 11 5 = 10 := by kernel_rfl
@[go_sem] theorem bits_andNot_11_8 : bits .andNot .i64 11 8 = 3 := by kernel_rfl
@[go_sem] theorem bits_andNot_11_10 : bits .andNot .i64 11 10 = 1 := by kernel_rfl
@[go_sem] theorem bits_andNot_12_4 : bits .andNot .i64 12 4 = 8 := by kernel_rfl
@[go_sem] theorem bits_andNot_12_5 : bits .andNot .i64 12 5 = 8 := by kernel_rfl
@[go_sem] theorem bits_andNot_12_8 : bits .andNot .i64 12 8 = 4 := by kernel_rfl
@[go_sem] theorem bits_andNot_12_10 : bits .andNot .i64 12 10 = 4 := by kernel_rfl
@[go_sem] theorem bits_andNot_13_4 : bits .andNot .i64 13 4 = 9 := by kernel_rfl
@[go_sem] theorem bits_andNot_13_5 : bits .andNot .i64 13 5 = 8 := by kernel_rfl
@[go_sem] theorem bits_andNot_13_8 : bits .andNot .i64 13 8 = 5 := by kernel_rfl
@[go_sem] theorem bits_andNot_13_10 : bits .andNot .i64 13 10 = 5 := by kernel_rfl
@[go_sem] theorem bits_andNot_14_4 : bits .andNot .i64 14 4 = 10 := by kernel_rfl
@[go_sem] theorem bits_andNot_14_5 : bits .andNot .i64 14 5 = 10 := by kernel_rfl
@[go_sem] theorem bits_andNot_14_8 : bits .andNot .i64 14 8 = 6 := by kernel_rfl
@[go_sem] theorem bits_andNot_14_10 : bits .andNot .i64 14 10 = 4 := by kernel_rfl
@[go_sem] theorem bits_andNot_15_4 : bits .andNot .i64 15 4 = 11 := by kernel_rfl
@[go_sem] theorem bits_andNot_15_5 : bits .andNot .i64 15 5 = 10 := by kernel_rfl
@[go_sem] theorem bits_andNot_15_8 : bits .andNot .i64 15 8 = 7 := by kernel_rfl
@[go_sem] theorem bits_andNot_15_10 : bits .andNot .i64 15 10 = 5 := by kernel_rfl
@[go_sem] theorem bits_or_0_0 : bits .or .i64 0 0 = 0 := by kernel_rfl
@[go_sem] theorem bits_or_0_1 : bits .or .i64 0 1 = 1 := by kernel_rfl
@[go_sem] theorem bits_or_0_2 : bits .or .i64 0 2 = 2 := by kernel_rfl
@[go_sem] theorem bits_or_0_4 : bits .or .i64 0 4 = 4 := by kernel_rfl
@[go_sem] theorem bits_or_0_5 : bits .or .i64 0 5 = 5 := by kernel_rfl
@[go_sem] theorem bits_or_0_8 : bits .or .i64 0 8 = 8 := by kernel_rfl
@[go_sem] theorem bits_or_1_1 : bits .or .i64 1 1 = 1 := by kernel_rfl
@[go_sem] theorem bits_or_1_2 : bits .or .i64 1 2 = 3 := by kernel_rfl
@[go_sem] theorem bits_or_1_4 : bits .or .i64 1 4 = 5 := by kernel_rfl
@[go_sem] theorem bits_or_1_8 : bits .or .i64 1 8 = 9 := by kernel_rfl
@[go_sem] theorem bits_or_2_0 : bits .or .i64 2 0 = 2 := by kernel_rfl
@[go_sem] theorem bits_or_2_1 : bits .or .i64 2 1 = 3 := by kernel_rfl
@[go_sem] theorem bits_or_2_2 : bits .or .i64 2 2 = 2 := by kernel_rfl
@[go_sem] theorem bits_or_2_4 : bits .or .i64 2 4 = 6 := by kernel_rfl
@[go_sem] theorem bits_or_2_5 : bits .or .i64 2 5 = 7 := by kernel_rfl
@[go_sem] theorem bits_or_2_8 : bits .or .i64 2 8 = 10 := by kernel_rfl
@[go_sem] theorem bits_or_3_1 : bits .or .i64 3 1 = 3 := by kernel_rfl
@[go_sem] theorem bits_or_3_2 : bits .or .i64 3 2 = 3 := by kernel_rfl
@[go_sem] theorem bits_or_3_4 : bits .or .i64 3 4 = 7 := by kernel_rfl
@[go_sem] theorem bits_or_3_8 : bits .or .i64 3 8 = 11 := by kernel_rfl
@[go_sem] theorem bits_or_4_1 : bits .or .i64 4 1 = 5 := by kernel_rfl
@[go_sem] theorem bits_or_4_2 : bits .or .i64 4 2 = 6 := by kernel_rfl
@[go_sem] theorem bits_or_4_4 : bits .or .i64 4 4 = 4 := by kernel_rfl
@[go_sem] theorem bits_or_4_8 : bits .or .i64 4 8 = 12 := by kernel_rfl
@[go_sem] theorem bits_or_5_1 : bits .or .i64 5 1 = 5 := by kernel_rfl
@[go_sem] theorem bits_or_5_2 : bits .or .i64 5 2 = 7 := by kernel_rfl
@[go_sem] theorem bits_or_5_4 : bits .or .i64 5 4 = 5 := by kernel_rfl
@[go_sem] theorem bits_or_5_8 : bits .or .i64 5 8 = 13 := by kernel_rfl
@[go_sem] theorem bits_or_6_1 : bits .or .i64 6 1 = 7 := by kernel_rfl
@[go_sem] theorem bits_or_6_2 : bits .or .i64 6 2 = 6 := by kernel_rfl
@[go_sem] theorem bits_or_6_4 : bits .or .i64 6 4 = 6 := by kernel_rfl
@[go_sem] theorem bits_or_6_8 : bits .or .i64 6 8 = 14 := by kernel_rfl
@[go_sem] theorem bits_or_7_1 : bits .or .i64 7 1 = 7 := by kernel_rfl
@[go_sem] theorem bits_or_7_2 : bits .or .i64 7 2 = 7 := by kernel_rfl
@[go_sem] theorem bits_or_7_4 : bits .or .i64 7 4 = 7 := by kernel_rfl
@[go_sem] theorem bits_or_7_8 : bits .or .i64 7 8 = 15 := by kernel_rfl
@[go_sem] theorem bits_or_8_0 : bits .or .i64 8 0 = 8 := by kernel_rfl
@[go_sem] theorem bits_or_8_1 : bits .or .i64 8 1 = 9 := by kernel_rfl
@[go_sem] theorem bits_or_8_2 : bits .or .i64 8 2 = 10 := by kernel_rfl
@[go_sem] theorem bits_or_8_4 : bits .or .i64 8 4 = 12 := by kernel_rfl
@[go_sem] theorem bits_or_8_5 : bits .or .i64 8 5 = 13 := by kernel_rfl
@[go_sem] theorem bits_or_8_8 : bits .or .i64 8 8 = 8 := by kernel_rfl
@[go_sem] theorem bits_or_9_1 : bits .or .i64 9 1 = 9 := by kernel_rfl
@[go_sem] theorem bits_or_9_2 : bits .or .i64 9 2 = 11 := by kernel_rfl
@[go_sem] theorem bits_or_9_4 : bits .or .i64 9 4 = 13 := by kernel_rfl
@[go_sem] theorem bits_or_9_8 : bits .or .i64 9 8 = 9 := by kernel_rfl
@[go_sem] theorem bits_or_10_0 : bits .or .i64 10 0 = 10 := by kernel_rfl
@[go_sem] theorem bits_or_10_1 : bits .or .i64 10 1 = 11 := by kernel_rfl
@[go_sem] theorem bits_or_10_2 : bits .or .i64 10 2 = 10 := by kernel_rfl
@[go_sem] theorem bits_or_10_4 : bits .or .i64 10 4 = 14 := by kernel_rfl
@[go_sem] theorem bits_or_10_5 : bits .or .i64 10 5 = 15 := by kernel_rfl
@[go_sem] theorem bits_or_10_8 : bits .or .i64 10 8 = 10 := by kernel_rfl
@[go_sem] theorem bits_or_11_1 : bits .or .i64 11 1 = 11 := by kernel_rfl
@[go_sem] theorem bits_or_11_2 : bits .or .i64 11 2 = 11 := by kernel_rfl
@[go_sem] theorem bits_or_11_4 : bits .or .i64 11 4 = 15 := by kernel_rfl
@[go_sem] theorem bits_or_11_8 : bits .or .i64 11 8 = 11 := by kernel_rfl
@[go_sem] theorem bits_or_12_1 : bits .or .i64 12 1 = 13 := by kernel_rfl
@[go_sem] theorem bits_or_12_2 : bits .or .i64 12 2 = 14 := by kernel_rfl
@[go_sem] theorem bits_or_12_4 : bits .or .i64 12 4 = 12 := by kernel_rfl
@[go_sem] theorem bits_or_12_8 : bits .or .i64 12 8 = 12 := by kernel_rfl
@[go_sem] theorem bits_or_13_1 : bits .or .i64 13 1 = 13 := by kernel_rfl
@[go_sem] theorem bits_or_13_2 : bits .or .i64 13 2 = 15 := by kernel_rfl
@[go_sem] theorem bits_or_13_4 : bits .or .i64 13 4 = 13 := by kernel_rfl
@[go_sem] theorem bits_or_13_8 : bits .or .i64 13 8 = 13 := by kernel_rfl
@[go_sem] theorem bits_or_14_1 : bits .or .i64 14 1 = 15 := by kernel_rfl
@[go_sem] theorem bits_or_14_2 : bits .or .i64 14 2 = 14 := by kernel_rfl
@[go_sem] theorem bits_or_14_4 : bits .or .i64 14 4 = 14 := by kernel_rfl
@[go_sem] theorem bits_or_14_8 : bits .or .i64 14 8 = 14 := by kernel_rfl
@[go_sem] theorem bits_or_15_1 : bits .or .i64 15 1 = 15 := by kernel_rfl
@[go_sem] theorem bits_or_15_2 : bits .or .i64 15 2 = 15 := by kernel_rfl
@[go_sem] theorem bits_or_15_4 : bits .or .i64 15 4 = 15 := by kernel_rfl
@[go_sem] theorem bits_or_15_8 : bits .or .i64 15 8 = 15 := by kernel_rfl

def andN (s m : Int) : Nat := s.toNat &&& m.toNat
def loseI (s m : Int) : Int := ((s.toNat ^^^ andN s m : Nat) : Int)
def loseB (s m : Int) : Bool := andN s m != 0
def turnI (s f t : Int) : Int := if andN s f = 0 then s else (((s.toNat ^^^ andN s f) ||| t.toNat : Nat) : Int)
def turnB (s f : Int) : Bool := andN s f != 0
def outI (s k : Int) : Int := if chk s ≠ 0 then s else if k = 7 then (if andN s 1 = 0 then ((s.toNat ||| 4 : Nat) : Int) else s) else if k = 10 then loseI s 5 else if k = 8 then turnI s 8 2 else if k = 9 then loseI s 10 else s
def outB (s k : Int) : Bool := if chk s ≠ 0 then false else if k = 7 then andN s 1 == 0 else if k = 10 then loseB s 5 else if k = 8 then turnB s 8 else if k = 9 then loseB s 10 else false
def inI (s k : Int) : Int := if chk s ≠ 0 then s else if k = 7 then (if andN s 10 = 0 then ((s.toNat ||| 8 : Nat) : Int) else s) else if k = 10 then loseI s 10 else if k = 8 then turnI s 4 1 else if k = 9 then loseI s 5 else s
def inB' (s k : Int) : Bool := if chk s ≠ 0 then false else if k = 7 then andN s 10 == 0 else if k = 10 then loseB s 10 else if k = 8 then turnB s 4 else if k = 9 then loseB s 5 else false
def mirI (s : Int) : Int := if chk s ≠ 0 then 0 else ((2 * andN s 5 + andN s 10 / 2 : Nat) : Int)

set_option maxHeartbeats 20000000 in
theorem lose_any (w : World) (s m : Int) (h0 : 0 ≤ s) (h1 : s ≤ 15) (hm : m = 5 ∨ m = 10) : Calls Try.prog 15 #[.int .i64 s, .int .i64 m] w fun e w' => e = .returned (.tuple #[.int .i64 (loseI s m), .bool (loseB s m)]) ∧ w' = w := by
  rcases hm with rfl | rfl <;> rcases sixteen h0 h1 with rfl | rfl | rfl | rfl | rfl | rfl | rfl | rfl | rfl | rfl | rfl | rfl | rfl | rfl | rfl | rfl
  all_goals
    clear h0 h1
    go_enter Try.func15, Try.ntmps15
    go_wp2_with fail
    exact bodyPost_ret (v := .tuple #[.int .i64 (loseI _ _), .bool (loseB _ _)]) (by simp [results, Try.results15, go_sem] <;> decide) rfl ⟨rfl, rfl⟩

set_option maxHeartbeats 20000000 in
theorem turn_any (w : World) (s f t : Int) (h0 : 0 ≤ s) (h1 : s ≤ 15) (hm : (f = 8 ∧ t = 2) ∨ (f = 4 ∧ t = 1)) : Calls Try.prog 16 #[.int .i64 s, .int .i64 f, .int .i64 t] w fun e w' => e = .returned (.tuple #[.int .i64 (turnI s f t), .bool (turnB s f)]) ∧ w' = w := by
  rcases hm with ⟨rfl, rfl⟩ | ⟨rfl, rfl⟩ <;> rcases sixteen h0 h1 with rfl | rfl | rfl | rfl | rfl | rfl | rfl | rfl | rfl | rfl | rfl | rfl | rfl | rfl | rfl | rfl
  all_goals
    clear h0 h1
    go_enter Try.func16, Try.ntmps16
    go_wp2_with fail
    exact bodyPost_ret (v := .tuple #[.int .i64 (turnI _ _ _), .bool (turnB _ _)]) (by simp [results, Try.results16, go_sem] <;> decide) rfl ⟨rfl, rfl⟩

set_option maxHeartbeats 20000000 in
theorem mirror_any (w : World) (s : Int) (h0 : 0 ≤ s) (h1 : s ≤ 15) : Calls Try.prog 12 #[.int .i64 s] w fun e w' => e = .returned (.int .i64 (mirI s)) ∧ w' = w := by
  rcases sixteen h0 h1 with rfl | rfl | rfl | rfl | rfl | rfl | rfl | rfl | rfl | rfl | rfl | rfl | rfl | rfl | rfl | rfl
  all_goals
    clear h0 h1
    go_enter Try.func12, Try.ntmps12
    go_wp2_with fail
    refine (check_any _ _ (by decide) (by decide)).mono ?_
    rintro e w1 ⟨rfl, rfl⟩
    go_wp2_with fail
    exact bodyPost_ret (v := .int .i64 (mirI _)) (by simp [results, Try.results12, go_sem] <;> decide) rfl ⟨rfl, rfl⟩

set_option maxHeartbeats 20000000 in
theorem out_any (w : World) (s k : Int) (h0 : 0 ≤ s) (h1 : s ≤ 15) (hk : k = 7 ∨ k = 8 ∨ k = 9 ∨ k = 10) : Calls Try.prog 6 #[.int .i64 s, .int .u8 k] w fun e w' => e = .returned (.tuple #[.int .i64 (outI s k), .bool (outB s k)]) ∧ w' = w := by
  rcases hk with rfl | rfl | rfl | rfl <;> rcases sixteen h0 h1 with rfl | rfl | rfl | rfl | rfl | rfl | rfl | rfl | rfl | rfl | rfl | rfl | rfl | rfl | rfl | rfl
  all_goals
    clear h0 h1
    go_enter Try.func6, Try.ntmps6
    go_wp2_with fail
    refine (check_any _ _ (by decide) (by decide)).mono ?_
    rintro e w1 ⟨rfl, rfl⟩
    go_wp2_with fail
    first
    | exact bodyPost_ret (v := .tuple #[.int .i64 (outI _ _), .bool (outB _ _)]) (by simp [results, Try.results6, go_sem] <;> decide) rfl ⟨rfl, rfl⟩
    | (refine (lose_any _ _ _ (by decide) (by decide) (by decide)).mono ?_
       rintro e w2 ⟨rfl, rfl⟩
       go_wp2_with fail
       exact bodyPost_ret (v := .tuple #[.int .i64 (outI _ _), .bool (outB _ _)]) (by simp [results, Try.results6, go_sem] <;> decide) rfl ⟨rfl, rfl⟩)
    | (refine (turn_any _ _ _ _ (by decide) (by decide) (by decide)).mono ?_
       rintro e w2 ⟨rfl, rfl⟩
       go_wp2_with fail
       exact bodyPost_ret (v := .tuple #[.int .i64 (outI _ _), .bool (outB _ _)]) (by simp [results, Try.results6, go_sem] <;> decide) rfl ⟨rfl, rfl⟩)

set_option maxHeartbeats 20000000 in
theorem in_any (w : World) (s k : Int) (h0 : 0 ≤ s) (h1 : s ≤ 15) (hk : k = 7 ∨ k = 8 ∨ k = 9 ∨ k = 10) : Calls Try.prog 7 #[.int .i64 s, .int .u8 k] w fun e w' => e = .returned (.tuple #[.int .i64 (inI s k), .bool (inB' s k)]) ∧ w' = w := by
  rcases hk with rfl | rfl | rfl | rfl <;> rcases sixteen h0 h1 with rfl | rfl | rfl | rfl | rfl | rfl | rfl | rfl | rfl | rfl | rfl | rfl | rfl | rfl | rfl | rfl
  all_goals
    clear h0 h1
    go_enter Try.func7, Try.ntmps7
    go_wp2_with fail
    refine (check_any _ _ (by decide) (by decide)).mono ?_
    rintro e w1 ⟨rfl, rfl⟩
    go_wp2_with fail
    first
    | exact bodyPost_ret (v := .tuple #[.int .i64 (inI _ _), .bool (inB' _ _)]) (by simp [results, Try.results7, go_sem] <;> decide) rfl ⟨rfl, rfl⟩
    | (refine (lose_any _ _ _ (by decide) (by decide) (by decide)).mono ?_
       rintro e w2 ⟨rfl, rfl⟩
       go_wp2_with fail
       exact bodyPost_ret (v := .tuple #[.int .i64 (inI _ _), .bool (inB' _ _)]) (by simp [results, Try.results7, go_sem] <;> decide) rfl ⟨rfl, rfl⟩)
    | (refine (turn_any _ _ _ _ (by decide) (by decide) (by decide)).mono ?_
       rintro e w2 ⟨rfl, rfl⟩
       go_wp2_with fail
       exact bodyPost_ret (v := .tuple #[.int .i64 (inI _ _), .bool (inB' _ _)]) (by simp [results, Try.results7, go_sem] <;> decide) rfl ⟨rfl, rfl⟩)

end Go.Proofs.Ytgjfihpmbchhiaa
