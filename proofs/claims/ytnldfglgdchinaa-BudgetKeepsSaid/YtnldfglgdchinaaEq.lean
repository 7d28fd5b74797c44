/- A state is itself, number by number. -/
import Derived.Test.YtnldfglgdchinaaL
import Derived.Laws.StructEq
namespace Go.Proofs.Ytnldfglgdchinaa
set_option linter.unusedSimpArgs false
set_option linter.unusedVariables false
open Go.RowKit

set_option maxRecDepth 100000 in
@[go_sem] theorem eq_many (w : World) (d : Nat) (a0 a1 a2 a3 a4 a5 : Int) :
    (Op.equalIn (d + 2) 22 (.agg #[.int .i64 a0, .int .i64 a1, .int .i64 a2, .int .i64 a3, .int .i64 a4, .int .i64 a5]) (.agg #[.int .i64 a0, .int .i64 a1, .int .i64 a2, .int .i64 a3, .int .i64 a4, .int .i64 a5])).run Try.prog w
      = .ok true w := by
  unfold Op.equalIn
  simp only [Sem.run_bind, run_underlying Try.underlying22, Result.andThen_ok]
  simp [go_sem, List.range']

set_option maxRecDepth 100000 in
@[go_sem] theorem eql_state26 (w : World) (c a0 a1 a2 a3 a4 a5 : Int) :
    (binOp .eql 26 (stV c a0 a1 a2 a3 a4 a5) (stV c a0 a1 a2 a3 a4 a5)).run Try.prog w = .ok (.bool true) w := by
  rw [run_eql_struct, run_equalIn_struct w 9999 26 _ _ (by kernel_rfl) (by kernel_rfl)]
  simp [go_sem]

set_option maxRecDepth 100000 in
@[go_sem] theorem eql_state24 (w : World) (c a0 a1 a2 a3 a4 a5 : Int) :
    (binOp .eql 24 (stV c a0 a1 a2 a3 a4 a5) (stV c a0 a1 a2 a3 a4 a5)).run Try.prog w = .ok (.bool true) w := by
  rw [run_eql_struct, run_equalIn_struct w 9999 24 _ _ (by kernel_rfl) (by kernel_rfl)]
  simp [go_sem]

set_option maxRecDepth 100000 in
@[go_sem] theorem neq_many (w : World) (a0 a1 a2 a3 a4 a5 : Int) :
    (binOp .neq 22 (.agg #[.int .i64 a0, .int .i64 a1, .int .i64 a2, .int .i64 a3, .int .i64 a4, .int .i64 a5]) (.agg #[.int .i64 a0, .int .i64 a1, .int .i64 a2, .int .i64 a3, .int .i64 a4, .int .i64 a5])).run Try.prog w = .ok (.bool false) w := by
  rw [run_neq_struct, eq_many w 9998]
  rfl

@[go_sem] theorem guard26 (w : World) (op : BinOp) (x y : Operand) (xs ys : Array Value) : (eqGuard op 26 x y (.agg xs) (.agg ys)).run Try.prog w = .ok () w := run_eqGuard_agg w op 26 x y xs ys (by kernel_rfl)
@[go_sem] theorem guard24 (w : World) (op : BinOp) (x y : Operand) (xs ys : Array Value) : (eqGuard op 24 x y (.agg xs) (.agg ys)).run Try.prog w = .ok () w := run_eqGuard_agg w op 24 x y xs ys (by kernel_rfl)
@[go_sem] theorem guard22 (w : World) (op : BinOp) (x y : Operand) (xs ys : Array Value) : (eqGuard op 22 x y (.agg xs) (.agg ys)).run Try.prog w = .ok () w := run_eqGuard_agg w op 22 x y xs ys (by kernel_rfl)

end Go.Proofs.Ytnldfglgdchinaa
