/- What '==' says of two lines, or of two results of a walk, that are the same. -/
import Derived.Test.YtndhgomikpokpaaEq
namespace Go.Proofs.Ytndhgomikpokpaa
open Go.RowKit
set_option maxRecDepth 100000

theorem eqLineD (d : Nat) (a0 a1 a2 a3 : Int) (a4 : Bool) (w : World) : (Op.equalIn (d + 3) 51 (.agg #[(Value.int .i64) a0, (Value.int .i64) a1, (Value.int .i64) a2, (Value.int .i64) a3, Value.bool a4]) (.agg #[(Value.int .i64) a0, (Value.int .i64) a1, (Value.int .i64) a2, (Value.int .i64) a3, Value.bool a4])).run Try.prog w = .ok true w := by
  have ub := Try.underlying4
  have cb := Try.isAgg4
  have zb := Try.sizeOf4
  have um := Try.underlying27
  have cm := Try.isAgg27
  have zm := Try.sizeOf27
  have hS : Try.prog.underlying 51 = some (.struct (Try.prog.fieldsOf 51)) := by kernel_rfl
  have hp : Try.prog.stoodInHeld 51 = false := by kernel_rfl
  have hM := fun (w : World) => eqMapD d a0 a0 a1 a1 a2 a2 a3 a3 w
  rw [show d + 3 = (d + 2) + 1 from rfl, run_equalIn_agg w (d + 2) 51 _ _ hS hp]
  simp only [Program.fieldsOf, Try.underlying51]
  go_simp
@[go_sem] theorem eqLine (a0 a1 a2 a3 : Int) (a4 : Bool) (w : World) : (Op.equalIn 10000 51 (.agg #[(Value.int .i64) a0, (Value.int .i64) a1, (Value.int .i64) a2, (Value.int .i64) a3, Value.bool a4]) (.agg #[(Value.int .i64) a0, (Value.int .i64) a1, (Value.int .i64) a2, (Value.int .i64) a3, Value.bool a4])).run Try.prog w = .ok true w := eqLineD 9997 a0 a1 a2 a3 a4 w
@[go_sem] theorem guardLine : Try.prog.eqGuardType Try.prog.depth 51 = false := by kernel_rfl
theorem eqResultD (d : Nat) (e : Bool) (b0 b1 b2 a0 a1 a2 a3 : Int) (a4 : Bool) (w : World) : (Op.equalIn (d + 4) 53 (.agg #[Value.bool e, (Value.int .i64) b0, (Value.int .i64) b1, (Value.int .i64) b2, (Value.int .i64) a0, (Value.int .i64) a1, (Value.int .i64) a2, (Value.int .i64) a3, Value.bool a4]) (.agg #[Value.bool e, (Value.int .i64) b0, (Value.int .i64) b1, (Value.int .i64) b2, (Value.int .i64) a0, (Value.int .i64) a1, (Value.int .i64) a2, (Value.int .i64) a3, Value.bool a4])).run Try.prog w = .ok true w := by
  have ub := Try.underlying4
  have cb := Try.isAgg4
  have zb := Try.sizeOf4
  have um := Try.underlying51
  have cm := Try.isAgg51
  have zm := Try.sizeOf51
  have ua := Try.underlying49
  have ca := Try.isAgg49
  have za := Try.sizeOf49
  have hS : Try.prog.underlying 53 = some (.struct (Try.prog.fieldsOf 53)) := by kernel_rfl
  have hp : Try.prog.stoodInHeld 53 = false := by kernel_rfl
  have hM := fun (w : World) => eqLineD d a0 a1 a2 a3 a4 w
  have hA := fun (w : World) => eqAnswerD (d + 1) b0 b0 b1 b1 b2 b2 w
  rw [show d + 4 = (d + 3) + 1 from rfl, run_equalIn_agg w (d + 3) 53 _ _ hS hp]
  simp only [Program.fieldsOf, Try.underlying53]
  go_simp
@[go_sem] theorem eqResult (e : Bool) (b0 b1 b2 a0 a1 a2 a3 : Int) (a4 : Bool) (w : World) : (Op.equalIn 10000 53 (.agg #[Value.bool e, (Value.int .i64) b0, (Value.int .i64) b1, (Value.int .i64) b2, (Value.int .i64) a0, (Value.int .i64) a1, (Value.int .i64) a2, (Value.int .i64) a3, Value.bool a4]) (.agg #[Value.bool e, (Value.int .i64) b0, (Value.int .i64) b1, (Value.int .i64) b2, (Value.int .i64) a0, (Value.int .i64) a1, (Value.int .i64) a2, (Value.int .i64) a3, Value.bool a4])).run Try.prog w = .ok true w := eqResultD 9996 e b0 b1 b2 a0 a1 a2 a3 a4 w
@[go_sem] theorem guardResult : Try.prog.eqGuardType Try.prog.depth 53 = false := by kernel_rfl
end Go.Proofs.Ytndhgomikpokpaa
