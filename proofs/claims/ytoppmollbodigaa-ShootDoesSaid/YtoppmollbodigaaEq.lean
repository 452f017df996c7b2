/- What '==' says of two structs or arrays of this program. -/
import Derived.Test.YtoppmollbodigaaModel
import Derived.Test.YtoppmollbodigaaProg
import Derived.Laws.StructEq
import Derived.KernelRfl
namespace Go.Proofs.Ytoppmollbodigaa
open Go.RowKit
set_option maxRecDepth 100000

@[go_sem] theorem eqMap (a b c d a' b' c' d' : Int) (w : World) : (Op.equalIn 10000 28 (.agg #[vi a, vi b, vi c, vi d]) (.agg #[vi a', vi b', vi c', vi d'])).run Try.prog w = .ok (a == a' && (b == b' && (c == c' && d == d'))) w := by
  have u3 := Try.underlying3
  have a3 := Try.isAgg3
  have z3 := Try.sizeOf3
  have hS : Try.prog.underlying 28 = some (.struct (Try.prog.fieldsOf 28)) := by kernel_rfl
  have hp : Try.prog.stoodInHeld 28 = false := by kernel_rfl
  rw [show (10000 : Nat) = 9999 + 1 from rfl, run_equalIn_agg w 9999 28 _ _ hS hp]
  simp only [Program.fieldsOf, Try.underlying28]
  go_simp
  by_cases h1 : a = a' <;> by_cases h2 : b = b' <;> by_cases h3 : c = c' <;> by_cases h4 : d = d' <;> simp [h1, h2, h3, h4]
@[go_sem] theorem eqBool4 (a b c d a' b' c' d' : Bool) (w : World) : (Op.equalIn 10000 85 (.agg #[vb a, vb b, vb c, vb d]) (.agg #[vb a', vb b', vb c', vb d'])).run Try.prog w = .ok (a == a' && (b == b' && (c == c' && d == d'))) w := by
  have u3 := Try.underlying4
  have a3 := Try.isAgg4
  have z3 := Try.sizeOf4
  rw [show (10000 : Nat) = 9999 + 1 from rfl, Op.equalIn]
  simp only [Sem.run_bind, run_underlying Try.underlying85, Result.andThen_ok]
  simp only [Std.Legacy.Range.forIn_eq_forIn_range', Std.Legacy.Range.size, Nat.sub_zero, Nat.add_sub_cancel, Nat.div_one, List.range'_succ, List.range'_zero, List.forIn_cons, List.forIn_nil]
  go_simp
  cases a <;> cases b <;> cases c <;> cases d <;> cases a' <;> cases b' <;> cases c' <;> cases d' <;> simp
@[go_sem] theorem guardMap : Try.prog.eqGuardType Try.prog.depth 28 = false := by kernel_rfl
@[go_sem] theorem guardBool4 : Try.prog.eqGuardType Try.prog.depth 85 = false := by kernel_rfl
end Go.Proofs.Ytoppmollbodigaa
