/- That entries' first look at itself is true; and plain laws for the laws on entries. -/
import Derived.Test.YtoppmollbodigaaEntry5
import Derived.Test.YtoppmollbodigaaRet
namespace Go.Proofs.Ytoppmollbodigaa
open Go.RowKit
set_option maxRecDepth 100000

theorem encW_range (e : En) (l : Int) : 0 ≤ encW e l ∧ encW e l < 18446744073709551616 := by
  unfold encW
  split
  · rename_i h
    obtain ⟨_, a, b⟩ := wordE_ne (entOk_of h.1 h.2)
    omega
  · omega
theorem enc_begun (W : World) : Calls Try.prog 53 #[.agg #[Value.bool true, Value.bool true, (Value.int .i64) 5, Value.bool false, Value.bool true, (Value.int .i64) 8], .int .i64 1] W (Pure (.tuple #[(Value.int .u64) 32971, (Value.int .i64) 0]) W) := by
  have := encode_any ⟨true, true, 5, false, true, 8⟩ 1 W
  rw [show encW ⟨true, true, 5, false, true, 8⟩ 1 = 32971 by decide, show entFault ⟨true, true, 5, false, true, 8⟩ 1 = 0 by decide] at this
  exact this
theorem dec_begun (W : World) : Calls Try.prog 54 #[.int .u64 32971, .int .i64 1] W (Pure (.tuple #[.agg #[Value.bool true, Value.bool true, (Value.int .i64) 5, Value.bool false, Value.bool true, (Value.int .i64) 8], (Value.int .i64) 0]) W) := by
  have := decode_any 32971 1 W (by omega) (by omega)
  unfold decV at this
  rw [show decE 32971 1 = ⟨true, true, 5, false, true, 8⟩ by decide, show decC 32971 1 = 0 by decide] at this
  exact this
theorem dec_begun7 (W : World) : Calls Try.prog 54 #[.int .u64 16, .int .i64 1] W (Pure (.tuple #[.agg #[Value.bool false, Value.bool false, (Value.int .i64) 0, Value.bool false, Value.bool false, (Value.int .i64) 0], (Value.int .i64) 7]) W) := by
  have := decode_any 16 1 W (by omega) (by omega)
  unfold decV at this
  rw [show decE 16 1 = ⟨false, false, 0, false, false, 0⟩ by decide, show decC 16 1 = 7 by decide] at this
  exact this
set_option maxHeartbeats 1000000 in
theorem entryBegun_any (w : World) : Calls Try.prog 52 #[] w (Pure (Value.bool true) w) := by
  have h1 := has_old w
  have HE := Lib.hid enc_begun
  have HD := Lib.hid dec_begun
  have H7 := Lib.hid dec_begun7
  go_enter Try.func52, Try.ntmps52
  go_wp2_with fail
  refine (HE.out _).mono ?_; rintro e w1 ⟨rfl, b1⟩
  have h2 := h1.below b1
  have x2 := (Ext.refl w).below b1
  clear HE h1 b1
  go_wp2_with fail
  refine (HD.out _).mono ?_; rintro e w2 ⟨rfl, b2⟩
  have h3 := (h2.below b2).new #[Value.bool true, Value.bool true, (Value.int .i64) 5, Value.bool false, Value.bool true, (Value.int .i64) 8] 75
  have x3 := (x2.below b2).alloc (.cells #[Value.bool true, Value.bool true, (Value.int .i64) 5, Value.bool false, Value.bool true, (Value.int .i64) 8] 75)
  clear HD h2 x2 b2
  go_wp2_with fail
  refine (H7.out _).mono ?_; rintro e w3 ⟨rfl, b3⟩
  have h4 := (h3.below b3)
  obtain ⟨c0, c1, c2, c3, c4, c5⟩ := h4.cells6
  have x4 := (x3.below b3).alloc (.cells #[Value.bool false, Value.bool false, (Value.int .i64) 0, Value.bool false, Value.bool false, (Value.int .i64) 0] 75)
  have h5 := h4.right.alloc (.cells #[Value.bool false, Value.bool false, (Value.int .i64) 0, Value.bool false, Value.bool false, (Value.int .i64) 0] 75)
  have l4 := h4.lt
  clear H7 h3 x3 b3
  go_wp2_with fail
  go_ret
  exact ⟨rfl, below_of1 h5 x4⟩
end Go.Proofs.Ytoppmollbodigaa
