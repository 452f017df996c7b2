/- The contract of tlb.Put. -/
import Derived.Test.YtacnjjjdkpbeaaaTl
namespace Go.Proofs.Ytacnjjjdkpbeaaa
open Go.RowKit
set_option maxRecDepth 100000

theorem oneCells (x : Ln) : ∀ u ∈ x.cells, u.oneCell' = true := by
  intro u hx
  simp [Ln.cells] at hx
  rcases hx with rfl | rfl | rfl | rfl | rfl <;> rfl
theorem put_shut {p c X : Nat} {A : Option Addr} {l : List Ln} {x : Ln} {cs : Array Value} {t : TypeId} {R : HProp} {w : World} (h : Has w (blk p #[.slice A (l.length + 1) c] 140 * (row 39 5 (.slice A (l.length + 1) c) (l.length + 1) (lcells l ++ x.cells) * (blk X cs t * R)))) :
    Has w (tlbAt p (l ++ [x]) * R) := by
  have h1 := h.drop3
  refine tlbAt_shut (A := A) (c := c) ?_
  unfold tlbIn lrow
  rw [show (l ++ [x]).length = l.length + 1 by simp, lcells_append, show lcells [x] = x.cells by simp [lcells]]
  exact h1
theorem put_no (p : Nat) (l : List Ln) (x : Ln) (R : HProp) (w : World) (hc : check x.m ≠ 0) (h : Has w (tlbAt p l * R)) :
    Calls Try.prog 16 #[.pointer (some ⟨p, 0, none⟩), .agg #[(Value.int .i64) x.m.page, (Value.int .i64) x.m.size, (Value.int .i64) x.m.frame, (Value.int .i64) x.m.rights, Value.bool x.dirty]] w (Res (Value.bool false) (tlbAt p l * R) w) := by
  have h1 := h.new #[(Value.int .i64) x.m.page, (Value.int .i64) x.m.size, (Value.int .i64) x.m.frame, (Value.int .i64) x.m.rights, Value.bool x.dirty] 39
  have x1 := (Ext.refl w).alloc (.cells #[(Value.int .i64) x.m.page, (Value.int .i64) x.m.size, (Value.int .i64) x.m.frame, (Value.int .i64) x.m.rights, Value.bool x.dirty] 39)
  obtain ⟨d0, d1, d2, d3, d4⟩ := h1.cells5
  have hn : (check x.m != 0) = true := by simpa using hc
  have HC := Lib.hid (check_any x.m)
  generalize check x.m = k at *
  go_enter Try.func16, Try.ntmps16
  go_wp2_with (refine (HC.out _).mono ?_; rintro e w2 ⟨rfl, b2⟩)
  go_ret
  exact ⟨rfl, h1.right.below b2, x1.below b2⟩
theorem put_yes (p : Nat) (l : List Ln) (x : Ln) (R : HProp) (w : World) (hok : LOk l) (hx : i64 x.m.page) (hl : l.length ≤ 1000) (hc : check x.m = 0) (h : Has w (tlbAt p l * R)) :
    Calls Try.prog 16 #[.pointer (some ⟨p, 0, none⟩), .agg #[(Value.int .i64) x.m.page, (Value.int .i64) x.m.size, (Value.int .i64) x.m.frame, (Value.int .i64) x.m.rights, Value.bool x.dirty]] w (Res (Value.bool true) (tlbAt p (Tl.room (Tl.drop l x.m) ++ [x]) * R) w) := by
  have h1 := h.new #[(Value.int .i64) x.m.page, (Value.int .i64) x.m.size, (Value.int .i64) x.m.frame, (Value.int .i64) x.m.rights, Value.bool x.dirty] 39
  have x1 := (Ext.refl w).alloc (.cells #[(Value.int .i64) x.m.page, (Value.int .i64) x.m.size, (Value.int .i64) x.m.frame, (Value.int .i64) x.m.rights, Value.bool x.dirty] 39)
  obtain ⟨d0, d1, d2, d3, d4⟩ := h1.cells5
  have HC := Lib.hid (check_any x.m)
  rw [hc] at HC
  have HD := Lib.hid (fun R w h => dropT p l x.m R w hok hx h)
  have hle : (Tl.drop l x.m).length ≤ l.length := List.length_filter_le _ _
  clear hc
  generalize Tl.drop l x.m = l1 at *
  by_cases h6 : l1.length = 6
  · have hr : Tl.room l1 = l1.tail := by unfold Tl.room; rw [if_pos h6]
    rw [hr]
    go_enter Try.func16, Try.ntmps16
    go_wp2_with fail
    refine (HC.out _).mono ?_; rintro e w2 ⟨rfl, b2⟩
    have h2 := h1.below b2
    have x2 := x1.below b2
    clear d0 d1 d2 d3 d4
    obtain ⟨d0, d1, d2, d3, d4⟩ := h2.cells5
    go_wp2_with fail
    refine (HD.out _ _ h2.p2).mono ?_; rintro e w3 ⟨rfl, h3, x3⟩
    have x3 := x2.trans x3
    obtain ⟨A, c, h3o⟩ := tlbAt_open h3
    have c0 : w3.cell? ⟨p, 0, none⟩ = some (.slice A l1.length c) := h3o.cell 0
    rw [h6] at c0
    have cp := h3o.lt
    clear d0 d1 d2 d3 d4 h1 h2 x1 x2 h HC HD
    go_wp2_with fail
    refine (evict_yes p l1 _ _ (by omega) h3).mono ?_; rintro e wz ⟨rfl, h4, x4⟩
    have hl' : l1.tail.length ≤ 1000 := by simp [h6]
    generalize l1.tail = l2 at *
    have x4 := x3.trans x4
    obtain ⟨A, c, h4⟩ := tlbAt_open h4
    clear c0 cp h3o h3 hle h6 hr x3
    go_wp2_with fail
    have hsm := (lrow_small h4.right).1
    have c0 := h4.cell 0
    have cp := h4.lt
    have cf := h4.free 0
    obtain ⟨d0, d1, d2, d3, d4⟩ := h4.right.right.cells5
    have dl := h4.right.right.lt
    have hrow := (h4.drew.p2).alloc (.cells #[(Value.int .i64) x.m.page, (Value.int .i64) x.m.size, (Value.int .i64) x.m.frame, (Value.int .i64) x.m.rights, Value.bool x.dirty] 39)
    go_region_law (refine step_append_has rfl (.tmp 25) (.tmp 27) 47 rfl Try.underlying47 elemLn _ _ _ (by simp [Act.eval]) hrow ⟨wz.heap.size, 0, none⟩ 1 1 x.cells (by simp [Act.eval]) rfl (news_many wz.drew x.cells 39) (oneCells x) (by unfold maxLen; omega) (by omega) ?_; intro A' c' w5 h5 x5; have g0 := h5.right.lt; have g1 := h5.right.free 0; have g2 := h5.right.cell 0)
    all_goals
      go_wp2_with fail
      go_ret
      exact ⟨rfl, put_shut (h5.p2.set 0 _), ((x4.drew.alloc _).trans x5).set _ _⟩
  · have hr : Tl.room l1 = l1 := by unfold Tl.room; rw [if_neg h6]
    rw [hr]
    have h6' : ((l1.length : Int) == 6) = false := beq_eq_false_iff_ne.2 (by omega)
    clear hr h6
    go_enter Try.func16, Try.ntmps16
    go_wp2_with fail
    refine (HC.out _).mono ?_; rintro e w2 ⟨rfl, b2⟩
    have h2 := h1.below b2
    have x2 := x1.below b2
    clear d0 d1 d2 d3 d4
    obtain ⟨d0, d1, d2, d3, d4⟩ := h2.cells5
    go_wp2_with fail
    refine (HD.out _ _ h2.p2).mono ?_; rintro e wz ⟨rfl, h3, x3⟩
    have x4 := x2.trans x3
    obtain ⟨A, c, h4⟩ := tlbAt_open h3
    clear d0 d1 d2 d3 d4 h1 h2 x1 x2 h HC HD h3
    have hl' : l1.length ≤ 1000 := by omega
    clear hle
    have c0 : wz.cell? ⟨p, 0, none⟩ = some (.slice A l1.length c) := h4.cell 0
    have cp := h4.lt
    go_wp2_with fail
    have hsm := (lrow_small h4.right).1
    have c0 := h4.cell 0
    have cp := h4.lt
    have cf := h4.free 0
    obtain ⟨d0, d1, d2, d3, d4⟩ := h4.right.right.cells5
    have dl := h4.right.right.lt
    have hrow := (h4.drew.p2).alloc (.cells #[(Value.int .i64) x.m.page, (Value.int .i64) x.m.size, (Value.int .i64) x.m.frame, (Value.int .i64) x.m.rights, Value.bool x.dirty] 39)
    go_region_law (refine step_append_has rfl (.tmp 25) (.tmp 27) 47 rfl Try.underlying47 elemLn _ _ _ (by simp [Act.eval]) hrow ⟨wz.heap.size, 0, none⟩ 1 1 x.cells (by simp [Act.eval]) rfl (news_many wz.drew x.cells 39) (oneCells x) (by unfold maxLen; omega) (by omega) ?_; intro A' c' w5 h5 x5; have g0 := h5.right.lt; have g1 := h5.right.free 0; have g2 := h5.right.cell 0)
    all_goals
      go_wp2_with fail
      go_ret
      exact ⟨rfl, put_shut (h5.p2.set 0 _), ((x4.drew.alloc _).trans x5).set _ _⟩
theorem Tl.Ok.lok {l : List Ln} (h : Tl.Ok l) : LOk l := fun x hx => by
  have hm := mapOk_of (h.chk x hx)
  have := hm.p0
  have := hm.p1
  have := hm.sp
  exact ⟨by omega, by omega⟩
theorem putT (p : Nat) (l : List Ln) (x : Ln) (R : HProp) (w : World) (hl : Tl.Ok l) (hx : i64 x.m.page) (h : Has w (tlbAt p l * R)) :
    Calls Try.prog 16 #[.pointer (some ⟨p, 0, none⟩), .agg #[(Value.int .i64) x.m.page, (Value.int .i64) x.m.size, (Value.int .i64) x.m.frame, (Value.int .i64) x.m.rights, Value.bool x.dirty]] w (Res (Value.bool (decide (check x.m = 0))) (tlbAt p (Tl.put l x) * R) w) := by
  unfold Tl.put
  by_cases hc : check x.m = 0
  · rw [if_pos hc, decide_eq_true hc]
    exact put_yes p l x R w hl.lok hx (Nat.le_trans hl.len (by omega)) hc h
  · rw [if_neg hc, decide_eq_false hc]
    exact put_no p l x R w hc h
theorem evictT (p : Nat) (l : List Ln) (R : HProp) (w : World) (h : Has w (tlbAt p l * R)) :
    Calls Try.prog 20 #[.pointer (some ⟨p, 0, none⟩)] w (Res (Value.bool (decide (0 < l.length))) (tlbAt p (Tl.evict l) * R) w) := by
  unfold Tl.evict
  cases l with
  | nil => exact evict_no p R w h
  | cons x l => exact evict_yes p (x :: l) R w (by simp) h
end Go.Proofs.Ytacnjjjdkpbeaaa
