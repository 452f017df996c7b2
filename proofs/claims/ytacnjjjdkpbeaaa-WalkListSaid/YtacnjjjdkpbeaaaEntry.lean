/- Contracts of package entry: its looks, its panics, and how they are caught. -/
import Derived.Test.YtacnjjjdkpbeaaaRefPage2
import Derived.Test.YtacnjjjdkpbeaaaEnt
import Derived.Defers
import Derived.Recover
import Derived.WalkLawsBesides
import Derived.Laws.Pointers
namespace Go.Proofs.Ytacnjjjdkpbeaaa
open Go.RowKit
set_option maxRecDepth 100000

theorem fail_no (c : Int) (w : World) : Calls Try.prog 131 #[.bool false, .int .i64 c] w (Same (.tuple #[]) w) := by
  go_enter Try.func131, Try.ntmps131
  go_wp2
  go_end0
  exact ⟨rfl, rfl⟩
/-- It panics with a code; the world is the very same. -/
def Dies (c : Int) (w : World) (e : Ending) (w' : World) : Prop := e = .panicked [{ v := .iface 189 ((Value.int .i64) c), recovered := false }] ∧ w = w'
theorem fail_yes (c : Int) (w : World) : Calls Try.prog 131 #[.bool true, .int .i64 c] w (Dies c w) := by
  go_enter Try.func131, Try.ntmps131
  go_wp2
  exact ⟨rfl, rfl, rfl⟩
theorem size_any (l : Int) (w : World) : Calls Try.prog 118 #[.int .i64 l] w (Same ((Value.int .i64) l) w) := by
  go_enter Try.func118, Try.ntmps118
  go_wp2
  go_ret
  exact ⟨rfl, rfl⟩
theorem bit_any (b : Bool) (n : Int) (w : World) : Calls Try.prog 125 #[.bool b, .int .u64 n] w (Same ((Value.int .u64) (b2i b n)) w) := by
  cases b with
  | true =>
    go_enter Try.func125, Try.ntmps125
    go_wp2
    go_ret
    exact ⟨rfl, rfl⟩
  | false =>
    go_enter Try.func125, Try.ntmps125
    go_wp2
    go_ret
    exact ⟨rfl, rfl⟩

theorem assertFault (c : Int) (w : World) : (Instr.typeAssert (.iface 189 ((Value.int .i64) c)) 20 189 true).run Try.prog w = .ok (.tuple #[(Value.int .i64) c, Value.bool true]) w := by kernel_rfl
theorem caught1_panic (p : Addr) (x c : Int) (older : List PanicEntry) (w : World) (hc : w.cell? p = some ((Value.int .i64) x)) (hz : w.frozen? p = false) :
    CallsD Try.prog 130 #[.pointer (some p)] (.panicking ({ v := .iface 189 ((Value.int .i64) c), recovered := false } :: older)) w fun e u' w' =>
      e = .returned (.tuple #[]) ∧ u' = .panicking ({ v := .iface 189 ((Value.int .i64) c), recovered := true } :: older) ∧ w' = w.setCell p ((Value.int .i64) c) := by
  have hta := assertFault c
  refine callsD_of_wpS Try.func130 rfl fun c₀ cs hu => ?_
  apply wpS_seq
  apply wpS_region
  simp [wpOpsS, go_sem, recoverD, hu, Try.ntmps130, Exit.thenS]
  apply wpS_seq
  apply wpS_region
  simp [wpOpsS, go_sem, Exit.thenS]
  refine wpS_cond (t := true) (by simp [Act.eval, Array.replicate]) ?_
  simp only [if_true]
  apply wpS_seq
  apply wpS_region
  simp [wpOpsS, go_sem, Exit.thenS, hta]
  apply wpS_seq
  apply wpS_seq
  apply wpS_region
  simp [wpOpsS, go_sem, Exit.thenS]
  refine wpS_cond (t := false) (by simp [Act.eval, Array.replicate]) ?_
  simp only [Bool.false_eq_true, if_false]
  refine wpS_of_wp (wp_skip ?_)
  simp only [Exit.thenS]
  apply wpS_region
  simp [wpOpsS, go_sem, hc, hz, bodyPostS, results, Try.results130]
theorem caught1_idle (p : Addr) (w : World) :
    CallsD Try.prog 130 #[.pointer (some p)] .returning w fun e u' w' => e = .returned (.tuple #[]) ∧ u' = .returning ∧ w' = w := by
  refine callsD_of_wpS Try.func130 rfl fun c₀ cs hu => ?_
  apply wpS_seq
  apply wpS_region
  simp [wpOpsS, go_sem, recoverD, hu, Try.ntmps130, Exit.thenS]
  apply wpS_seq
  apply wpS_region
  simp [wpOpsS, go_sem, Exit.thenS]
  refine wpS_cond (t := false) (by simp [Act.eval, Array.replicate]) ?_
  simp only [Bool.false_eq_true, if_false]
  refine wpS_of_wp (wp_skip ?_)
  cases c₀
  simp_all [bodyPostS, results, Try.results130]
end Go.Proofs.Ytacnjjjdkpbeaaa
