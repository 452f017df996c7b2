/- That frames' first look at itself is true. -/
import Derived.Test.YtoppmollbodigaaMem4
import Derived.Test.YtoppmollbodigaaPgBegun
namespace Go.Proofs.Ytoppmollbodigaa
open Go.RowKit
set_option maxRecDepth 100000

theorem framesIn_tail {p g : Nat} {vf : Value} {s : Ms} {R : HProp} {w : World} (h : Has w (framesIn p g vf s R)) : Has w R := h.right.right.right
set_option maxHeartbeats 1000000 in
theorem framesBegun_any (w : World) : Calls Try.prog 29 #[] w (Pure (Value.bool true) w) := by
  go_enter Try.func29, Try.ntmps29
  go_wp2_with fail
  refine (new_frames 2 (by omega) _ _ (has_old w)).mono ?_; rintro e w1 ⟨p, g, vf, rfl, h1, x1⟩
  have h2 := h1.new #[(Value.int .i64) 0, (Value.int .i64) 0] 52
  have x2 := x1.alloc (.cells #[(Value.int .i64) 0, (Value.int .i64) 0] 52)
  have h3 : Has (w1.alloc (.cells #[(Value.int .i64) 0, (Value.int .i64) 0] 52)) (framesIn p g vf (Ms.new 2) (blk w1.heap.size #[(Value.int .i64) 0, (Value.int .i64) 0] 52 * old w w.heap.size)) := h2.p2.in2.in3
  go_wp2_with fail
  refine (take_any p g _ _ 0 _ _ h3 rfl (by decide)).mono ?_; rintro e w2 ⟨vf2, rfl, h4, x4⟩
  go_wp2_with fail
  refine (take_any p g _ _ 1 _ _ h4 rfl (by decide)).mono ?_; rintro e w3 ⟨vf3, rfl, h5, x5⟩
  go_wp2_with fail
  refine (take_none p g _ _ _ _ h5 rfl).mono ?_; rintro e w4 ⟨rfl, rfl⟩
  go_wp2_with fail
  refine (give_yes p g _ _ 0 _ _ h5 rfl (by decide)).mono ?_; rintro e w4 ⟨vf4, rfl, h6, x6⟩
  go_wp2_with fail
  refine (give_no p g _ _ 0 _ _ h6 rfl).mono ?_; rintro e w5 ⟨rfl, rfl⟩
  go_wp2_with fail
  refine (store_any p g _ _ 0 0 1 _ _ h6).mono ?_; rintro e w5 ⟨rfl, h7, x7⟩
  have q1 := Lib.hid (show ((((Ms.new 2).take 0).take 1).give 0).hasW 0 0 = false from rfl)
  rw [q1.out]
  go_wp2_with fail
  refine (store_any p g _ _ 1 7 1 _ _ h7).mono ?_; rintro e w6 ⟨rfl, h8, x8⟩
  have q2 := Lib.hid (show (storeS ((((Ms.new 2).take 0).take 1).give 0) 0 0 1).hasW 1 7 = true from rfl)
  rw [q2.out]
  go_wp2_with fail
  refine (swap_any p g _ _ 1 7 1 2 _ _ h8).mono ?_; rintro e w7 ⟨rfl, h9, x9⟩
  have q3 := Lib.hid (show swapB (storeS (storeS ((((Ms.new 2).take 0).take 1).give 0) 0 0 1) 1 7 1) 1 7 1 = true from rfl)
  rw [q3.out]
  go_wp2_with fail
  refine (swap_any p g _ _ 1 7 1 3 _ _ h9).mono ?_; rintro e w8 ⟨rfl, h10, x10⟩
  have q4 := Lib.hid (show swapB (swapS (storeS (storeS ((((Ms.new 2).take 0).take 1).give 0) 0 0 1) 1 7 1) 1 7 1 2) 1 7 1 = false from rfl)
  rw [q4.out]
  go_wp2_with fail
  refine (free_any p g _ _ _ _ h10).mono ?_; rintro e w9 ⟨rfl, rfl⟩
  have q5 := Lib.hid (show (swapS (swapS (storeS (storeS ((((Ms.new 2).take 0).take 1).give 0) 0 0 1) 1 7 1) 1 7 1 2) 1 7 1 3).frees.length = 1 from rfl)
  rw [q5.out]
  go_wp2_with fail
  go_ret
  exact ⟨rfl, below_of1 (framesIn_tail h10).right ((((((((x2.trans x4).trans x5).trans x6).trans x7).trans x8).trans x9).trans x10))⟩
end Go.Proofs.Ytoppmollbodigaa
