/- That the first look at a walker is true. -/
import Derived.Test.YtndhgomikpokpaaWkr4
import Derived.Test.YtndhgomikpokpaaMemS
namespace Go.Proofs.Ytndhgomikpokpaa
open Go.RowKit
set_option maxRecDepth 100000

theorem wb_step : stepC (memS 2 1 [4111]) 0 (Ck.zero.begin 0 ⟨512, 0, false⟩) = ⟨(Ck.zero.begin 0 ⟨512, 0, false⟩).idle, memS 2 1 [4111], ⟨true, ⟨1, 0, 0⟩, ⟨Mp.zero, false⟩⟩, 0⟩ := by rfl
theorem wb_step2 (c : Ck) (s : Ms) : stepC s 0 c.idle = ⟨c.idle, s, Rs.zero, 9⟩ := by rfl
theorem wb_beg : begC Ck.zero ⟨512, 0, false⟩ = 0 ∧ begS Ck.zero 0 ⟨512, 0, false⟩ = Ck.zero.begin 0 ⟨512, 0, false⟩ := ⟨by rfl, by rfl⟩
theorem wb_beg2 : begC (Ck.zero.begin 0 ⟨512, 0, false⟩) ⟨0, 0, false⟩ = 8 ∧ begS (Ck.zero.begin 0 ⟨512, 0, false⟩) 0 ⟨0, 0, false⟩ = Ck.zero.begin 0 ⟨512, 0, false⟩ := ⟨by rfl, by rfl⟩
set_option maxHeartbeats 4000000 in
theorem walkerBegun_any (w : World) : Calls Try.prog 21 #[] w (Pure (Value.bool true) w) := by
  have h0 := (has_old w).new #[(Value.int .u64) 4111] 67
  have x0 := (Ext.refl w).alloc (.cells #[(Value.int .u64) 4111] 67)
  have hA : Arr (w.alloc (.cells #[(Value.int .u64) 4111] 67)) (some ⟨w.heap.size, 0, none⟩) 1 1 ([(4111 : Int)].map cellsU) := by
    refine ⟨rfl, by omega, fun i xs hi => ⟨w.heap.size, 0, rfl, h0.lt, fun j u hu => ?_⟩⟩
    match i, hi with
    | 0, hi =>
      simp [cellsU] at hi
      subst hi
      match j, hu with
      | 0, hu => simp at hu; subst hu; exact h0.cell 0
  have hok := memS_ok (n := 2) (taken := 1) (ws := [4111]) (by omega) (by omega) (fun x hx => by simp at hx; subst hx; exact ⟨by decide, by decide⟩)
  have B1 := Lib.hid (fun k R w h => beginW k 0 Ck.zero ⟨512, 0, false⟩ R w h)
  rw [wb_beg.1, wb_beg.2] at B1
  have B2 := Lib.hid (fun k R w h => beginW k 0 (Ck.zero.begin 0 ⟨512, 0, false⟩) ⟨0, 0, false⟩ R w h)
  rw [wb_beg2.1, wb_beg2.2] at B2
  have O1 := Lib.hid (fun k R w h => onW k 0 (Ck.zero.begin 0 ⟨512, 0, false⟩) R w h)
  rw [show (Ck.zero.begin 0 ⟨512, 0, false⟩).on = true from rfl] at O1
  have O2 := Lib.hid (fun k R w h => onW k 0 (Ck.zero.begin 0 ⟨512, 0, false⟩).idle R w h)
  rw [show (Ck.zero.begin 0 ⟨512, 0, false⟩).idle.on = false from rfl] at O2
  have S1 := Lib.hid (fun k f R w h => stepW k f 0 (Ck.zero.begin 0 ⟨512, 0, false⟩) (memS 2 1 [4111]) hok (Ck.Ok.begin 0 rfl) R w h)
  rw [wb_step] at S1
  have S2 := Lib.hid (fun k f R w h => stepW k f 0 (Ck.zero.begin 0 ⟨512, 0, false⟩).idle (memS 2 1 [4111]) hok Ck.Ok.idle R w h)
  rw [wb_step2] at S2
  clear hok
  go_enter Try.func21, Try.ntmps21
  go_wp2_with fail
  refine (memory_any 2 1 _ 1 1 [4111] _ (by omega) (by omega) hA (fun x hx => by simp at hx; subst hx; exact ⟨by decide, by decide⟩)).mono ?_; rintro e w1 ⟨f, m, rfl, h1, x1⟩
  have h1 := (h0.onto' h1.a2).a1
  have x1 := x0.trans x1
  clear h0 x0 hA
  generalize memS 2 1 [4111] = s at *
  go_wp2_with fail
  refine (newW 0 _ _ h1).mono ?_; rintro e w2 ⟨k, rfl, h2, x2⟩
  have x2 := x1.trans x2
  generalize Ck.zero.begin 0 ⟨512, 0, false⟩ = c at *
  go_wp2_with fail
  refine (B1.out k _ _ h2).mono ?_; rintro e w3 ⟨rfl, h3, x3⟩
  have x3 := x2.trans x3
  clear h1 x1 h2 x2 B1
  go_wp2_with fail
  refine (B2.out k _ _ h3).mono ?_; rintro e w4 ⟨rfl, h4, x4⟩
  have x4 := x3.trans x4
  clear h3 x3 B2
  go_wp2_with fail
  refine (O1.out k _ _ h4).mono ?_; rintro e w5 ⟨rfl, rfl⟩
  go_wp2_with fail
  refine (S1.out k f _ _ h4).mono ?_; rintro e w6 ⟨rfl, h6, x6⟩
  have h7 := (h6.new #[Value.bool true, (Value.int .i64) 1, (Value.int .i64) 0, (Value.int .i64) 0, (Value.int .i64) 0, (Value.int .i64) 0, (Value.int .i64) 0, (Value.int .i64) 0, Value.bool false] 53).p2
  have x7 := (x4.trans x6).alloc (.cells #[Value.bool true, (Value.int .i64) 1, (Value.int .i64) 0, (Value.int .i64) 0, (Value.int .i64) 0, (Value.int .i64) 0, (Value.int .i64) 0, (Value.int .i64) 0, Value.bool false] 53)
  have h8 : Has _ (walkerAt k 0 c.idle * (framesAt f s * _)) := h7.eq (by rw [star_left_comm (blk _ _ _)])
  clear h4 x4 h6 x6 O1 S1 h7
  go_wp2_with fail
  refine (S2.out k f _ _ h8).mono ?_; rintro e w9 ⟨rfl, h9, x9⟩
  have hr := h9.right.right
  have x9 := x7.trans x9
  obtain ⟨r0, r1, _⟩ := hr.cells9
  have rl := hr.lt
  have h10 := (h9.alloc (.cells #[Value.bool false, (Value.int .i64) 0, (Value.int .i64) 0, (Value.int .i64) 0, (Value.int .i64) 0, (Value.int .i64) 0, (Value.int .i64) 0, (Value.int .i64) 0, Value.bool false] 53))
  have x10 := x9.alloc (.cells #[Value.bool false, (Value.int .i64) 0, (Value.int .i64) 0, (Value.int .i64) 0, (Value.int .i64) 0, (Value.int .i64) 0, (Value.int .i64) 0, (Value.int .i64) 0, Value.bool false] 53)
  clear h8 x7 S2
  go_wp2_with fail
  refine (O2.out k _ _ h10).mono ?_; rintro e w11 ⟨rfl, rfl⟩
  go_wp2_with fail
  go_ret
  exact ⟨rfl, below_of1 h10.right.right.right.right.right x10⟩
end Go.Proofs.Ytndhgomikpokpaa
