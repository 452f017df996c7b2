/- What '==' says of two structs or arrays of this program. -/
import Derived.Test.YtndhgomikpokpaaModel
import Derived.Test.YtndhgomikpokpaaProg
import Derived.Laws.StructEq
import Derived.KernelRfl
namespace Go.Proofs.Ytndhgomikpokpaa
open Go.RowKit
set_option maxRecDepth 100000

theorem eqMapD (d : Nat) (a0 b0 : Int) (a1 b1 : Int) (a2 b2 : Int) (a3 b3 : Int) (w : World) : (Op.equalIn (d + 2) 27 (.agg #[(Value.int .i64) a0, (Value.int .i64) a1, (Value.int .i64) a2, (Value.int .i64) a3]) (.agg #[(Value.int .i64) b0, (Value.int .i64) b1, (Value.int .i64) b2, (Value.int .i64) b3])).run Try.prog w = .ok (a0 == b0 && (a1 == b1 && (a2 == b2 && (a3 == b3)))) w := by
  have ui := Try.underlying3
  have ci := Try.isAgg3
  have zi := Try.sizeOf3
  have hS : Try.prog.underlying 27 = some (.struct (Try.prog.fieldsOf 27)) := by kernel_rfl
  have hp : Try.prog.stoodInHeld 27 = false := by kernel_rfl
  rw [show d + 2 = (d + 1) + 1 from rfl, run_equalIn_agg w (d + 1) 27 _ _ hS hp]
  simp only [Program.fieldsOf, Try.underlying27]
  go_simp
  by_cases h0 : a0 = b0
  · skip
    by_cases h1 : a1 = b1
    · skip
      by_cases h2 : a2 = b2
      · skip
        by_cases h3 : a3 = b3
        · skip
          simp [h0, h1, h2, h3]
        · simp [h0, h1, h2, h3]
      · simp [h0, h1, h2]
    · simp [h0, h1]
  · simp [h0]
@[go_sem] theorem eqMap (a0 b0 : Int) (a1 b1 : Int) (a2 b2 : Int) (a3 b3 : Int) (w : World) : (Op.equalIn 10000 27 (.agg #[(Value.int .i64) a0, (Value.int .i64) a1, (Value.int .i64) a2, (Value.int .i64) a3]) (.agg #[(Value.int .i64) b0, (Value.int .i64) b1, (Value.int .i64) b2, (Value.int .i64) b3])).run Try.prog w = .ok (a0 == b0 && (a1 == b1 && (a2 == b2 && (a3 == b3)))) w := eqMapD 9998 a0 b0 a1 b1 a2 b2 a3 b3 w
@[go_sem] theorem guardMap : Try.prog.eqGuardType Try.prog.depth 27 = false := by kernel_rfl

theorem eqAccessD (d : Nat) (a0 b0 : Int) (a1 b1 : Int) (a2 b2 : Bool) (w : World) : (Op.equalIn (d + 2) 29 (.agg #[(Value.int .i64) a0, (Value.int .i64) a1, Value.bool a2]) (.agg #[(Value.int .i64) b0, (Value.int .i64) b1, Value.bool b2])).run Try.prog w = .ok (a0 == b0 && (a1 == b1 && (a2 == b2))) w := by
  have ub := Try.underlying4
  have cb := Try.isAgg4
  have zb := Try.sizeOf4
  have ui := Try.underlying3
  have ci := Try.isAgg3
  have zi := Try.sizeOf3
  have hS : Try.prog.underlying 29 = some (.struct (Try.prog.fieldsOf 29)) := by kernel_rfl
  have hp : Try.prog.stoodInHeld 29 = false := by kernel_rfl
  rw [show d + 2 = (d + 1) + 1 from rfl, run_equalIn_agg w (d + 1) 29 _ _ hS hp]
  simp only [Program.fieldsOf, Try.underlying29]
  go_simp
  by_cases h0 : a0 = b0
  · skip
    by_cases h1 : a1 = b1
    · skip
      by_cases h2 : a2 = b2
      · skip
        simp [h0, h1, h2]
      · simp [h0, h1, h2]
    · simp [h0, h1]
  · simp [h0]
@[go_sem] theorem eqAccess (a0 b0 : Int) (a1 b1 : Int) (a2 b2 : Bool) (w : World) : (Op.equalIn 10000 29 (.agg #[(Value.int .i64) a0, (Value.int .i64) a1, Value.bool a2]) (.agg #[(Value.int .i64) b0, (Value.int .i64) b1, Value.bool b2])).run Try.prog w = .ok (a0 == b0 && (a1 == b1 && (a2 == b2))) w := eqAccessD 9998 a0 b0 a1 b1 a2 b2 w
@[go_sem] theorem guardAccess : Try.prog.eqGuardType Try.prog.depth 29 = false := by kernel_rfl

theorem eqAnswerD (d : Nat) (a0 b0 : Int) (a1 b1 : Int) (a2 b2 : Int) (w : World) : (Op.equalIn (d + 2) 49 (.agg #[(Value.int .i64) a0, (Value.int .i64) a1, (Value.int .i64) a2]) (.agg #[(Value.int .i64) b0, (Value.int .i64) b1, (Value.int .i64) b2])).run Try.prog w = .ok (a0 == b0 && (a1 == b1 && (a2 == b2))) w := by
  have ui := Try.underlying3
  have ci := Try.isAgg3
  have zi := Try.sizeOf3
  have hS : Try.prog.underlying 49 = some (.struct (Try.prog.fieldsOf 49)) := by kernel_rfl
  have hp : Try.prog.stoodInHeld 49 = false := by kernel_rfl
  rw [show d + 2 = (d + 1) + 1 from rfl, run_equalIn_agg w (d + 1) 49 _ _ hS hp]
  simp only [Program.fieldsOf, Try.underlying49]
  go_simp
  by_cases h0 : a0 = b0
  · skip
    by_cases h1 : a1 = b1
    · skip
      by_cases h2 : a2 = b2
      · skip
        simp [h0, h1, h2]
      · simp [h0, h1, h2]
    · simp [h0, h1]
  · simp [h0]
@[go_sem] theorem eqAnswer (a0 b0 : Int) (a1 b1 : Int) (a2 b2 : Int) (w : World) : (Op.equalIn 10000 49 (.agg #[(Value.int .i64) a0, (Value.int .i64) a1, (Value.int .i64) a2]) (.agg #[(Value.int .i64) b0, (Value.int .i64) b1, (Value.int .i64) b2])).run Try.prog w = .ok (a0 == b0 && (a1 == b1 && (a2 == b2))) w := eqAnswerD 9998 a0 b0 a1 b1 a2 b2 w
@[go_sem] theorem guardAnswer : Try.prog.eqGuardType Try.prog.depth 49 = false := by kernel_rfl

theorem eqEntryD (d : Nat) (a0 b0 : Bool) (a1 b1 : Bool) (a2 b2 : Int) (a3 b3 : Bool) (a4 b4 : Bool) (a5 b5 : Int) (w : World) : (Op.equalIn (d + 2) 58 (.agg #[Value.bool a0, Value.bool a1, (Value.int .i64) a2, Value.bool a3, Value.bool a4, (Value.int .i64) a5]) (.agg #[Value.bool b0, Value.bool b1, (Value.int .i64) b2, Value.bool b3, Value.bool b4, (Value.int .i64) b5])).run Try.prog w = .ok (a0 == b0 && (a1 == b1 && (a2 == b2 && (a3 == b3 && (a4 == b4 && (a5 == b5)))))) w := by
  have ub := Try.underlying4
  have cb := Try.isAgg4
  have zb := Try.sizeOf4
  have ui := Try.underlying3
  have ci := Try.isAgg3
  have zi := Try.sizeOf3
  have hS : Try.prog.underlying 58 = some (.struct (Try.prog.fieldsOf 58)) := by kernel_rfl
  have hp : Try.prog.stoodInHeld 58 = false := by kernel_rfl
  rw [show d + 2 = (d + 1) + 1 from rfl, run_equalIn_agg w (d + 1) 58 _ _ hS hp]
  simp only [Program.fieldsOf, Try.underlying58]
  go_simp
  by_cases h0 : a0 = b0
  · skip
    by_cases h1 : a1 = b1
    · skip
      by_cases h2 : a2 = b2
      · skip
        by_cases h3 : a3 = b3
        · skip
          by_cases h4 : a4 = b4
          · skip
            by_cases h5 : a5 = b5
            · skip
              simp [h0, h1, h2, h3, h4, h5]
            · simp [h0, h1, h2, h3, h4, h5]
          · simp [h0, h1, h2, h3, h4]
        · simp [h0, h1, h2, h3]
      · simp [h0, h1, h2]
    · simp [h0, h1]
  · simp [h0]
@[go_sem] theorem eqEntry (a0 b0 : Bool) (a1 b1 : Bool) (a2 b2 : Int) (a3 b3 : Bool) (a4 b4 : Bool) (a5 b5 : Int) (w : World) : (Op.equalIn 10000 58 (.agg #[Value.bool a0, Value.bool a1, (Value.int .i64) a2, Value.bool a3, Value.bool a4, (Value.int .i64) a5]) (.agg #[Value.bool b0, Value.bool b1, (Value.int .i64) b2, Value.bool b3, Value.bool b4, (Value.int .i64) b5])).run Try.prog w = .ok (a0 == b0 && (a1 == b1 && (a2 == b2 && (a3 == b3 && (a4 == b4 && (a5 == b5)))))) w := eqEntryD 9998 a0 b0 a1 b1 a2 b2 a3 b3 a4 b4 a5 b5 w
@[go_sem] theorem guardEntry : Try.prog.eqGuardType Try.prog.depth 58 = false := by kernel_rfl

theorem eqFaultD (d : Nat) (a0 b0 : Int) (a1 b1 : Int) (w : World) : (Op.equalIn (d + 2) 162 (.agg #[(Value.int .i64) a0, (Value.int .i64) a1]) (.agg #[(Value.int .i64) b0, (Value.int .i64) b1])).run Try.prog w = .ok (a0 == b0 && (a1 == b1)) w := by
  have ui := Try.underlying3
  have ci := Try.isAgg3
  have zi := Try.sizeOf3
  have hS : Try.prog.underlying 162 = some (.struct (Try.prog.fieldsOf 162)) := by kernel_rfl
  have hp : Try.prog.stoodInHeld 162 = false := by kernel_rfl
  rw [show d + 2 = (d + 1) + 1 from rfl, run_equalIn_agg w (d + 1) 162 _ _ hS hp]
  simp only [Program.fieldsOf, Try.underlying162]
  go_simp
  by_cases h0 : a0 = b0
  · skip
    by_cases h1 : a1 = b1
    · skip
      simp [h0, h1]
    · simp [h0, h1]
  · simp [h0]
@[go_sem] theorem eqFault (a0 b0 : Int) (a1 b1 : Int) (w : World) : (Op.equalIn 10000 162 (.agg #[(Value.int .i64) a0, (Value.int .i64) a1]) (.agg #[(Value.int .i64) b0, (Value.int .i64) b1])).run Try.prog w = .ok (a0 == b0 && (a1 == b1)) w := eqFaultD 9998 a0 b0 a1 b1 w
@[go_sem] theorem guardFault : Try.prog.eqGuardType Try.prog.depth 162 = false := by kernel_rfl


@[go_sem] theorem eqU8 (a0 b0 : Int) (a1 b1 : Int) (a2 b2 : Int) (a3 b3 : Int) (a4 b4 : Int) (a5 b5 : Int) (a6 b6 : Int) (a7 b7 : Int) (w : World) : (Op.equalIn 10000 70 (.agg #[(Value.int .u64) a0, (Value.int .u64) a1, (Value.int .u64) a2, (Value.int .u64) a3, (Value.int .u64) a4, (Value.int .u64) a5, (Value.int .u64) a6, (Value.int .u64) a7]) (.agg #[(Value.int .u64) b0, (Value.int .u64) b1, (Value.int .u64) b2, (Value.int .u64) b3, (Value.int .u64) b4, (Value.int .u64) b5, (Value.int .u64) b6, (Value.int .u64) b7])).run Try.prog w = .ok (a0 == b0 && (a1 == b1 && (a2 == b2 && (a3 == b3 && (a4 == b4 && (a5 == b5 && (a6 == b6 && (a7 == b7)))))))) w := by
  have u3 := Try.underlying67
  have c3 := Try.isAgg67
  have z3 := Try.sizeOf67
  rw [show (10000 : Nat) = 9999 + 1 from rfl, Op.equalIn]
  simp only [Sem.run_bind, run_underlying Try.underlying70, Result.andThen_ok]
  simp only [Std.Legacy.Range.forIn_eq_forIn_range', Std.Legacy.Range.size, Nat.sub_zero, Nat.add_sub_cancel, Nat.div_one, List.range'_succ, List.range'_zero, List.forIn_cons, List.forIn_nil]
  go_simp
  by_cases h0 : a0 = b0
  · skip
    by_cases h1 : a1 = b1
    · skip
      by_cases h2 : a2 = b2
      · skip
        by_cases h3 : a3 = b3
        · skip
          by_cases h4 : a4 = b4
          · skip
            by_cases h5 : a5 = b5
            · skip
              by_cases h6 : a6 = b6
              · skip
                by_cases h7 : a7 = b7
                · skip
                  simp [h0, h1, h2, h3, h4, h5, h6, h7]
                · simp [h0, h1, h2, h3, h4, h5, h6, h7]
              · simp [h0, h1, h2, h3, h4, h5, h6]
            · simp [h0, h1, h2, h3, h4, h5]
          · simp [h0, h1, h2, h3, h4]
        · simp [h0, h1, h2, h3]
      · simp [h0, h1, h2]
    · simp [h0, h1]
  · simp [h0]
@[go_sem] theorem guardU8 : Try.prog.eqGuardType Try.prog.depth 70 = false := by kernel_rfl

end Go.Proofs.Ytndhgomikpokpaa
