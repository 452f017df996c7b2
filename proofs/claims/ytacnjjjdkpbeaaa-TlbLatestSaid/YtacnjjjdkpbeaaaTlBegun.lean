/- That the first look at what is kept is true; that the same lines are the same. -/
import Derived.Test.YtacnjjjdkpbeaaaCoreR2
import Derived.Test.YtacnjjjdkpbeaaaFrame2
namespace Go.Proofs.Ytacnjjjdkpbeaaa
open Go.RowKit
set_option maxRecDepth 100000

def ln1 : Ln := ⟨⟨9, 0, 1, 0⟩, false⟩
def ln2 : Ln := ⟨⟨8, 1, 16, 0⟩, true⟩
def ln3 : Ln := ⟨⟨0, 9, 0, 0⟩, false⟩
set_option maxHeartbeats 1000000 in
theorem tlbBegun_any (w : World) : Calls Try.prog 14 #[] w (Pure (Value.bool true) w) := by
  have p1 := Lib.hid (fun p R w h => putT p [] ln1 R w Tl.Ok.nil ⟨by decide, by decide⟩ h)
  have p2 := Lib.hid (fun p R w h => putT p [ln1] ln2 R w (Tl.Ok.nil.put ln1) ⟨by decide, by decide⟩ h)
  have p3 := Lib.hid (fun p R w h => putT p [ln2] ln3 R w ((Tl.Ok.nil.put ln1).put ln2) ⟨by decide, by decide⟩ h)
  have p4 := Lib.hid (fun p R w h => findT p [ln2] 9 R w ((Tl.Ok.nil.put ln1).put ln2).lok ⟨by decide, by decide⟩ h)
  have p5 := Lib.hid (fun p R w h => listT p [ln2] R w (by decide) h)
  have p6 := Lib.hid (fun p R w h => dropT p [ln2] ⟨15, 0, 0, 0⟩ R w ((Tl.Ok.nil.put ln1).put ln2).lok ⟨by decide, by decide⟩ h)
  have p7 := Lib.hid (fun p R w h => evictT p [] R w h)
  have e1 : decide (check ln1.m = 0) = true := by decide
  have e1' : Tl.put [] ln1 = [ln1] := by decide
  have e2 : decide (check ln2.m = 0) = true := by decide
  have e2' : Tl.put [ln1] ln2 = [ln2] := by decide
  have e3 : decide (check ln3.m = 0) = false := by decide
  have e3' : Tl.put [ln2] ln3 = [ln2] := by decide
  have e4 : Tl.find [ln2] 9 = some ln2 := by decide
  have e6 : Tl.drop [ln2] ⟨15, 0, 0, 0⟩ = [] := by decide
  have e7 : decide (0 < ([] : List Ln).length) = false := by decide
  have e7' : Tl.evict [] = [] := rfl
  rw [e1, e1'] at p1
  rw [e2, e2'] at p2
  rw [e3, e3'] at p3
  rw [e4, show lnOf (some ln2) = .agg #[(Value.int .i64) 8, (Value.int .i64) 1, (Value.int .i64) 16, (Value.int .i64) 0, Value.bool true] from rfl] at p4
  rw [e6] at p6
  rw [e7, e7'] at p7
  clear e1 e1' e2 e2' e3 e3' e4 e6 e7 e7'
  go_enter Try.func14, Try.ntmps14
  go_wp2_with fail
  refine (newT _ _ (has_old w)).mono ?_; rintro e w1 ⟨p, rfl, h1, x1⟩
  have h2 : Has (w1.alloc (.cells #[(Value.int .i64) 8, (Value.int .i64) 1, (Value.int .i64) 16, (Value.int .i64) 0] 34)) (tlbAt p [] * (blk w1.heap.size #[(Value.int .i64) 8, (Value.int .i64) 1, (Value.int .i64) 16, (Value.int .i64) 0] 34 * old w w.heap.size)) := (h1.new #[(Value.int .i64) 8, (Value.int .i64) 1, (Value.int .i64) 16, (Value.int .i64) 0] 34).p2
  have x2 := x1.alloc (.cells #[(Value.int .i64) 8, (Value.int .i64) 1, (Value.int .i64) 16, (Value.int .i64) 0] 34)
  go_wp2_with fail
  refine (p1.out p _ _ h2).mono ?_; rintro e w2 ⟨rfl, h3, x3⟩
  have x3 := x2.trans x3
  obtain ⟨c0, c1, c2, c3⟩ := h3.right.cells4
  go_wp2_with fail
  refine (p2.out p _ _ h3).mono ?_; rintro e w3 ⟨rfl, h4, x4⟩
  have x4 := x3.trans x4
  go_wp2_with fail
  refine (p3.out p _ _ h4).mono ?_; rintro e w4 ⟨rfl, h5, x5⟩
  have x5 := x4.trans x5
  go_wp2_with fail
  refine (p4.out p _ _ h5).mono ?_; rintro e w5 ⟨rfl, b5⟩
  have h6 := h5.below b5
  have x6 := x5.below b5
  clear h2 h3 h4 h5 x1 x2 x3 x4 x5 h1 c0 c1 c2 c3 p1 p2 p3 p4
  obtain ⟨c0, c1, c2, c3⟩ := h6.right.cells4
  have cl := h6.right.lt
  have h7 := h6.new #[(Value.int .i64) 8, (Value.int .i64) 1, (Value.int .i64) 16, (Value.int .i64) 0, Value.bool true] 39
  have x7 := x6.alloc (.cells #[(Value.int .i64) 8, (Value.int .i64) 1, (Value.int .i64) 16, (Value.int .i64) 0, Value.bool true] 39)
  clear x6
  go_wp2_with fail
  refine (p5.out p _ _ (h7.p2)).mono ?_; rintro e w6 ⟨A, n, c, rfl, h8, x8⟩
  have hn : Hid (n = 1) := lrow_len h8
  rw [hn.out]
  have x8 := x7.trans x8
  have h9 := h7.p2.onto h8 |>.right
  go_wp2_with fail
  refine (p6.out p _ _ h9).mono ?_; rintro e w7 ⟨rfl, h10, x10⟩
  have x10 := x8.trans x10
  go_wp2_with fail
  refine (p7.out p _ _ h10).mono ?_; rintro e w8 ⟨rfl, h11, x11⟩
  have x11 := x10.trans x11
  go_wp2_with fail
  go_ret
  exact ⟨rfl, below_of1 h11.right.right.right x11⟩

theorem sameLines_any (l : List Ln) (A B : Option Addr) (n c n' c' : Nat) (R : HProp) (w : World) (h : Has w (lrow (.slice A n c) l * (rrow (.slice B n' c') l * R))) :
    Calls Try.prog 23 #[.slice A n c, .slice B n' c'] w (Pure (Value.bool true) w) := by
  have hn := lrow_len h
  have hn' := rrow_len h.right
  subst hn
  subst hn'
  obtain ⟨hbig, _⟩ := lrow_small h
  go_enter Try.func23, Try.ntmps23
  go_wp2_with fail
  go_loopw [5] (fun s5 wr => ∃ i : Nat, i ≤ l.length ∧ s5 = (Value.int .i64) i ∧ Below w.heap.size w wr) (fun s5 _ => l.length - (intOf s5).toNat)
  case atStart => exact ⟨0, Nat.zero_le _, rfl, Below.refl _ _⟩
  case round =>
    obtain ⟨i, hi, rfl, BW⟩ := hrel
    have h' := h.below BW
    clear h
    have BW' := Lib.hid BW
    clear BW
    by_cases hlt : i < l.length
    · obtain ⟨b, rfl, hb, ⟨c0, c1, c2, c3, c4⟩, _⟩ := lrow_at h' hlt
      obtain ⟨b', off, rfl, hb', d0, d1, d2, d3, d4⟩ := rrow_at h'.right hlt
      clear h'
      generalize l[i] = x at c0 c1 c2 c3 c4 d0 d1 d2 d3 d4
      have v0 := via_cell c0
      have v1 := via_cell c1
      have v2 := via_cell c2
      have v3 := via_cell c3
      have v4 := via_cell c4
      have u0 := via_cell d0
      have u1 := via_cell d1
      have u2 := via_cell d2
      have u3 := via_cell d3
      have u4 := via_cell d4
      clear c0 c1 c2 c3 c4 d0 d1 d2 d3 d4
      go_wp2_with fail
      refine wp_region_via (by kernel_rfl) (by kernel_rfl) ?_
      repeat (first | go_big_quiet_step (fail) | quiet_step (fail))
      refine wpQuiet_nil ?_
      intro _ hw'
      obtain ⟨uq, hw''⟩ := hw'
      subst hw''
      go_wp2_with fail
      go_roundw
      case rel => exact ⟨i + 1, by omega, by go_num, BW'.out.trans ((via_below _ _).mono BW'.out.size)⟩
      case measure => simp [intOf]; omega
    · go_wp2_with fail
      go_ret
      exact ⟨rfl, BW'.out⟩
end Go.Proofs.Ytacnjjjdkpbeaaa
