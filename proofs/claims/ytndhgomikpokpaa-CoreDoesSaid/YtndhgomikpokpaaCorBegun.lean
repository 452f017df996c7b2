/- That the first look at a core is true. -/
import Derived.Test.YtndhgomikpokpaaCoreP
import Derived.Test.YtndhgomikpokpaaMemS
namespace Go.Proofs.Ytndhgomikpokpaa
open Go.RowKit
set_option maxRecDepth 100000

theorem cb_beg : coreB [] 0 Ck.zero ⟨5, 0, false⟩ = ⟨An.zero, false, 0, Ck.zero.begin 0 ⟨5, 0, false⟩⟩ := by rfl
theorem cb_step : stepC (memS 2 1 []) 0 (Ck.zero.begin 0 ⟨5, 0, false⟩) = ⟨(Ck.zero.begin 0 ⟨5, 0, false⟩).idle, memS 2 1 [], ⟨true, ⟨1, 0, 0⟩, ⟨Mp.zero, false⟩⟩, 0⟩ := by rfl
set_option maxHeartbeats 4000000 in
theorem coreBegun_any (w : World) : Calls Try.prog 73 #[] w (Pure (Value.bool true) w) := by
  have hA : Arr w none 0 1 (([] : List Int).map cellsU) := ⟨rfl, by omega, fun i xs hi => (by simp at hi)⟩
  have hok := memS_ok (n := 2) (taken := 1) (ws := []) (by omega) (by omega) (fun x hx => (by cases hx))
  have B1 := Lib.hid (fun b R w h => beginC b [] 0 Ck.zero ⟨5, 0, false⟩ Tl.Ok.nil ⟨by decide, by decide⟩ R w h)
  rw [cb_beg] at B1
  have S1 := Lib.hid (fun b f R w h => stepPC b f [] 0 (Ck.zero.begin 0 ⟨5, 0, false⟩) (memS 2 1 []) Tl.Ok.nil hok (Ck.Ok.begin 0 rfl) R w h)
  rw [cb_step] at S1
  have O1 := Lib.hid (fun b R w h => busyC b [] 0 (Ck.zero.begin 0 ⟨5, 0, false⟩).idle R w h)
  rw [show (Ck.zero.begin 0 ⟨5, 0, false⟩).idle.on = false from rfl] at O1
  dsimp only [An.zero] at B1
  dsimp only at S1
  rw [show keepL [] ⟨true, ⟨1, 0, 0⟩, ⟨Mp.zero, false⟩⟩ = [] from rfl] at S1
  clear hok
  go_enter Try.func73, Try.ntmps73
  go_wp2_with fail
  refine (memory_any 2 1 none 0 0 [] _ (by omega) (by omega) hA (fun x hx => (by cases hx))).mono ?_; rintro e w1 ⟨f, m, rfl, h1, x1⟩
  clear hA
  generalize memS 2 1 [] = s at *
  go_wp2_with fail
  refine (newC 0 _ _ h1).mono ?_; rintro e w2 ⟨b, rfl, h2, x2⟩
  have x2 := x1.trans x2
  generalize Ck.zero.begin 0 ⟨5, 0, false⟩ = c at *
  go_wp2_with fail
  refine (B1.out b _ _ h2).mono ?_; rintro e w3 ⟨rfl, h3, x3⟩
  have h4 := h3.alloc (.cells #[(Value.int .i64) 0, (Value.int .i64) 0, (Value.int .i64) 0] 49)
  have x4 := (x2.trans x3).alloc (.cells #[(Value.int .i64) 0, (Value.int .i64) 0, (Value.int .i64) 0] 49)
  clear h1 x1 h2 x2 B1 h3 x3
  go_wp2_with fail
  refine (S1.out b f _ _ h4).mono ?_; rintro e w5 ⟨rfl, h5, x5⟩
  have h6 := h5.new #[(Value.int .i64) 1, (Value.int .i64) 0, (Value.int .i64) 0] 49
  have x6 := (x4.trans x5).alloc (.cells #[(Value.int .i64) 1, (Value.int .i64) 0, (Value.int .i64) 0] 49)
  obtain ⟨r0, r1, r2⟩ := h6.cells3
  have rl := h6.lt
  clear h4 x4 h5 x5 S1
  go_wp2_with fail
  refine (O1.out b _ _ h6.right).mono ?_; rintro e w7 ⟨rfl, rfl⟩
  obtain ⟨t, v, h7⟩ := pcAt_open h6.right
  obtain ⟨c0, c1⟩ := h7.cells2
  have cl := h7.lt
  clear O1 r0 r1 r2 rl
  go_wp2_with fail
  refine (evictT t [] _ _ h7.right).mono ?_; rintro e w8 ⟨rfl, h8, x8⟩
  go_wp2_with fail
  go_ret
  exact ⟨rfl, below_of1 h8.right.right.right.right (x6.trans x8)⟩
end Go.Proofs.Ytndhgomikpokpaa
