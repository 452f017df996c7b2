/- That the first look at a book is true. -/
import Derived.Test.YtndhgomikpokpaaBook3
import Derived.Test.YtndhgomikpokpaaFrame2
namespace Go.Proofs.Ytndhgomikpokpaa
open Go.RowKit
set_option maxRecDepth 100000

theorem MapOk.pageI {m : Mp} (h : MapOk m) : i64 m.page := ⟨by have := h.p0; omega, by have := h.p1; have := h.sp; omega⟩
def mpA : Mp := ⟨8, 1, 16, 0⟩
def mpB : Mp := ⟨9, 0, 0, 0⟩
def mpC : Mp := ⟨7, 0, 0, 0⟩
set_option maxHeartbeats 1000000 in
theorem bookBegun_any (w : World) : Calls Try.prog 15 #[] w (Pure (Value.bool true) w) := by
  have e1 : Bk.addC [] mpA = 0 := by decide
  have e1' : Bk.add [] mpA = [mpA] := by decide
  have e2 : Bk.addC [mpA] mpB = 4 := by decide
  have e2' : Bk.add [mpA] mpB = [mpA] := by decide
  have e3 : Bk.addC [mpA] mpC = 0 := by decide
  have e3' : Bk.add [mpA] mpC = [mpC, mpA] := by decide
  have e4 : Bk.dropR [mpC, mpA] 16 = none := by decide
  have e4' : Bk.dropC [mpC, mpA] 16 = 5 := by decide
  have e4'' : Bk.dropL [mpC, mpA] 16 = [mpC, mpA] := by decide
  have e5 : Bk.find [mpC, mpA] 15 = some mpA := by decide
  have o1 : Bk.Ok [mpA] := e1' ▸ Bk.Ok.nil.add mpA
  have o2 : Bk.Ok [mpC, mpA] := e3' ▸ o1.add mpC
  have p1 := Lib.hid (fun p R w h => addB p [] mpA R w Bk.Ok.nil ⟨by decide, by decide⟩ h)
  have p2 := Lib.hid (fun p R w h => addB p [mpA] mpB R w o1 ⟨by decide, by decide⟩ h)
  have p3 := Lib.hid (fun p R w h => addB p [mpA] mpC R w o1 ⟨by decide, by decide⟩ h)
  have p4 := Lib.hid (fun p R w h => dropB p [mpC, mpA] 16 R w o2 ⟨by decide, by decide⟩ h)
  have p5 := Lib.hid (fun p R w h => findB p [mpC, mpA] 15 R w o2 ⟨by decide, by decide⟩ h)
  have p6 := Lib.hid (fun p R w h => listB p [mpC, mpA] R w (by decide) h)
  rw [e1, e1'] at p1
  rw [e2, e2'] at p2
  rw [e3, e3'] at p3
  rw [e4, e4', e4'', show mpOf none = .agg #[(Value.int .i64) 0, (Value.int .i64) 0, (Value.int .i64) 0, (Value.int .i64) 0] from rfl] at p4
  rw [e5, show mpOf (some mpA) = .agg #[(Value.int .i64) 8, (Value.int .i64) 1, (Value.int .i64) 16, (Value.int .i64) 0] from rfl] at p5
  clear e1 e1' e2 e2' e3 e3' e4 e4' e4'' e5 o1 o2
  go_enter Try.func15, Try.ntmps15
  go_wp2_with fail
  refine (newB _ _ (has_old w)).mono ?_; rintro e w1 ⟨p, rfl, h1, x1⟩
  have h2 : Has (w1.alloc (.cells #[(Value.int .i64) 8, (Value.int .i64) 1, (Value.int .i64) 16, (Value.int .i64) 0] 27)) (bookAt p [] * (blk w1.heap.size #[(Value.int .i64) 8, (Value.int .i64) 1, (Value.int .i64) 16, (Value.int .i64) 0] 27 * old w w.heap.size)) := (h1.new #[(Value.int .i64) 8, (Value.int .i64) 1, (Value.int .i64) 16, (Value.int .i64) 0] 27).p2
  have x2 := x1.alloc (.cells #[(Value.int .i64) 8, (Value.int .i64) 1, (Value.int .i64) 16, (Value.int .i64) 0] 27)
  go_wp2_with fail
  refine (p1.out p _ _ h2).mono ?_; rintro e w2 ⟨rfl, h3, x3⟩
  have x3 := x2.trans x3
  obtain ⟨c0, c1, c2, c3⟩ := h3.right.cells4
  go_wp2_with fail
  refine (p2.out p _ _ h3).mono ?_; rintro e w3 ⟨rfl, h4, x4⟩
  have x4 := x3.trans x4
  go_wp2_with fail
  refine (p3.out p _ _ h4).mono ?_; rintro e w4 ⟨rfl, h5, x5⟩
  have x5 := x4.trans x5
  go_wp2_with fail
  refine (p4.out p _ _ h5).mono ?_; rintro e w5 ⟨rfl, h6, x6⟩
  have x6 := x5.trans x6
  clear h2 h3 h4 h5 x1 x2 x3 x4 x5 h1 c0 c1 c2 c3 p1 p2 p3 p4
  have h7 := (h6.new #[(Value.int .i64) 0, (Value.int .i64) 0, (Value.int .i64) 0, (Value.int .i64) 0] 27).p2
  have x7 := x6.alloc (.cells #[(Value.int .i64) 0, (Value.int .i64) 0, (Value.int .i64) 0, (Value.int .i64) 0] 27)
  go_wp2_with fail
  refine (p5.out p _ _ h7).mono ?_; rintro e w6 ⟨rfl, b6⟩
  have h8 := h7.below b6
  have x8 := x7.below b6
  clear h6 x6 h7 x7 b6 p5
  obtain ⟨c0, c1, c2, c3⟩ := h8.right.right.cells4
  have cl := h8.right.right.lt
  have h9 := (h8.new #[(Value.int .i64) 8, (Value.int .i64) 1, (Value.int .i64) 16, (Value.int .i64) 0] 27).p2
  have x9 := x8.alloc (.cells #[(Value.int .i64) 8, (Value.int .i64) 1, (Value.int .i64) 16, (Value.int .i64) 0] 27)
  clear h8 x8
  go_wp2_with fail
  refine (p6.out p _ _ h9).mono ?_; rintro e w7 ⟨A, n, c, rfl, h10, x10⟩
  have hn : Hid (n = 2) := mrow_len h10
  rw [hn.out]
  have x10 := x9.trans x10
  have h11 := (h9.onto' h10).right
  go_wp2_with fail
  refine (p6.out p _ _ h11).mono ?_; rintro e w8 ⟨A2, n2, c2, rfl, h12, x12⟩
  obtain rfl : n2 = 2 := mrow_len h12
  have x12 := x10.trans x12
  obtain ⟨b, rfl, hb, d0, _⟩ := mrow_at (k := 0) h12 (by decide)
  have d0' : w8.cell? ⟨b, 0, none⟩ = some ((Value.int .i64) 7) := d0
  clear d0
  go_wp2_with fail
  go_ret
  have h13 := (h11.onto' h12).right
  exact ⟨rfl, below_of1 h13.right.right.right.right x12⟩
end Go.Proofs.Ytndhgomikpokpaa
