/- The contract of the document's Put. -/
import Derived.Test.YtacnjjjdkpbeaaaCoreR
namespace Go.Proofs.Ytacnjjjdkpbeaaa
open Go.RowKit
set_option maxRecDepth 100000

/-- The document's core at block q. -/
def coreAt (q : Nat) (l : List Ln) (k : Ck) : HProp := ex fun A => ex fun c => coreIn q A c l k (lift True)
theorem coreAt_open {q : Nat} {l : List Ln} {k : Ck} {R : HProp} {w : World} (h : Has w (coreAt q l k * R)) : ∃ A c, Has w (coreIn q A c l k R) := by
  unfold coreAt at h
  obtain ⟨g, h⟩ := has_ex_star.1 h
  obtain ⟨vf, h⟩ := has_ex_star.1 h
  refine ⟨g, vf, ?_⟩
  unfold coreIn at h ⊢
  simpa only [star_assoc, star_lift] using h
theorem coreAt_shut {q c : Nat} {A : Option Addr} {l : List Ln} {k : Ck} {R : HProp} {w : World} (h : Has w (coreIn q A c l k R)) : Has w (coreAt q l k * R) := by
  unfold coreAt
  refine has_ex_star.2 ⟨A, has_ex_star.2 ⟨c, ?_⟩⟩
  unfold coreIn at h ⊢
  simpa only [star_assoc, star_lift] using h
theorem putR_shut {q c X : Nat} {A : Option Addr} {l : List Ln} {k : Ck} {x : Ln} {cs : Array Value} {t : TypeId} {R : HProp} {w : World} (h : Has w (coreBlk q (.slice A (l.length + 1) c) k * (rowO 41 5 (.slice A (l.length + 1) c) (l.length + 1) (lcells l ++ x.cells) * (blk X cs t * R)))) :
    Has w (coreAt q (l ++ [x]) k * R) := by
  have h1 := h.drop3
  refine coreAt_shut (A := A) (c := c) ?_
  unfold coreIn rrow
  rw [show (l ++ [x]).length = l.length + 1 by simp, lcells_append, show lcells [x] = x.cells by simp [lcells]]
  exact h1
theorem putR_no (q : Nat) (l : List Ln) (k : Ck) (x : Ln) (R : HProp) (w : World) (hc : check x.m ≠ 0) (h : Has w (coreAt q l k * R)) :
    Calls Try.prog 17 #[.pointer (some ⟨q, 0, none⟩), .agg #[(Value.int .i64) x.m.page, (Value.int .i64) x.m.size, (Value.int .i64) x.m.frame, (Value.int .i64) x.m.rights, Value.bool x.dirty]] w (Res (Value.bool false) (coreAt q l k * R) w) := by
  have h1 := h.new #[(Value.int .i64) x.m.page, (Value.int .i64) x.m.size, (Value.int .i64) x.m.frame, (Value.int .i64) x.m.rights, Value.bool x.dirty] 41
  have x1 := (Ext.refl w).alloc (.cells #[(Value.int .i64) x.m.page, (Value.int .i64) x.m.size, (Value.int .i64) x.m.frame, (Value.int .i64) x.m.rights, Value.bool x.dirty] 41)
  obtain ⟨d0, d1, d2, d3, d4⟩ := h1.cells5
  have hn : (check x.m != 0) = true := by simpa using hc
  have HC := Lib.hid (mapFault_any x.m)
  generalize check x.m = kk at *
  go_enter Try.func17, Try.ntmps17
  go_wp2_with (refine (HC.out _).mono ?_; rintro e w2 ⟨rfl, b2⟩)
  go_ret
  exact ⟨rfl, h1.right.below b2, x1.below b2⟩
theorem putR_yes (q : Nat) (l : List Ln) (k : Ck) (x : Ln) (R : HProp) (w : World) (hok : LOk l) (hx : i64 x.m.page) (hl : l.length ≤ 1000) (hc : check x.m = 0) (h : Has w (coreAt q l k * R)) :
    Calls Try.prog 17 #[.pointer (some ⟨q, 0, none⟩), .agg #[(Value.int .i64) x.m.page, (Value.int .i64) x.m.size, (Value.int .i64) x.m.frame, (Value.int .i64) x.m.rights, Value.bool x.dirty]] w (Res (Value.bool true) (coreAt q (Tl.room (Tl.drop l x.m) ++ [x]) k * R) w) := by
  have h1 := h.new #[(Value.int .i64) x.m.page, (Value.int .i64) x.m.size, (Value.int .i64) x.m.frame, (Value.int .i64) x.m.rights, Value.bool x.dirty] 41
  have x1 := (Ext.refl w).alloc (.cells #[(Value.int .i64) x.m.page, (Value.int .i64) x.m.size, (Value.int .i64) x.m.frame, (Value.int .i64) x.m.rights, Value.bool x.dirty] 41)
  obtain ⟨d0, d1, d2, d3, d4⟩ := h1.cells5
  have HC := Lib.hid (mapFault_any x.m)
  rw [hc] at HC
  have HD := Lib.hid (fun A c R w h => dropR q A c l k x.m R w hok hx hl h)
  have hle : (Tl.drop l x.m).length ≤ l.length := List.length_filter_le _ _
  clear hc
  generalize Tl.drop l x.m = l1 at *
  by_cases h6 : l1.length = 6
  · have hr : Tl.room l1 = l1.tail := by unfold Tl.room; rw [if_pos h6]
    rw [hr]
    go_enter Try.func17, Try.ntmps17
    go_wp2_with fail
    refine (HC.out _).mono ?_; rintro e w2 ⟨rfl, b2⟩
    have h2 := h1.below b2
    have x2 := x1.below b2
    clear d0 d1 d2 d3 d4
    obtain ⟨d0, d1, d2, d3, d4⟩ := h2.cells5
    obtain ⟨A, c, h2⟩ := coreAt_open h2.p2
    go_wp2_with fail
    refine (HD.out _ _ _ _ h2).mono ?_; rintro e w3 ⟨A3, c3, rfl, h3, x3⟩
    have x3 := x2.trans x3
    have hsm3 := (Has.rowOSmall (e := 41) (size := 5) h3.right).2
    rw [h6] at hsm3
    obtain ⟨g, off, rfl⟩ : ∃ g off, A3 = some ⟨g, off, none⟩ := by
      obtain ⟨g, off, e, _⟩ := rrow_at h3.right (k := 0) (by omega)
      exact ⟨g, off, e⟩
    have c0 : w3.cell? ⟨q, 0, none⟩ = some (.slice (some ⟨g, off, none⟩) l1.length c3) := Has.cell h3 0
    rw [h6] at c0
    have cp := Has.lt h3
    have cf := Has.free h3 0
    have ht : Has w3 (rrow (.slice (some ⟨g, off + 5, none⟩) l1.tail.length (c3 - 1)) l1.tail * (coreBlk q (.slice (some ⟨g, off, none⟩) l1.length c3) k * (blk w.heap.size #[(Value.int .i64) x.m.page, (Value.int .i64) x.m.size, (Value.int .i64) x.m.frame, (Value.int .i64) x.m.rights, Value.bool x.dirty] 41 * R))) := by
      have h4 := h3.p2
      unfold rrow at h4
      cases l1 with
      | nil => simp at h6
      | cons y l1 =>
        have h5 := Has.rowOTail h4
        rw [if_neg (by omega)] at h5
        exact h5
    have hl' : l1.tail.length ≤ 1000 := by simp [h6]
    have h5t : l1.tail.length = 5 := by simp [h6]
    have ht2 := (Has.p2 ht).set 0 (.slice (some ⟨g, off + 5, none⟩) l1.tail.length (c3 - 1))
    have h4 : Has (w3.setCell ⟨q, 0, none⟩ (.slice (some ⟨g, off + 5, none⟩) 5 (c3 - 1))) (coreIn q (some ⟨g, off + 5, none⟩) (c3 - 1) l1.tail k (blk w.heap.size #[(Value.int .i64) x.m.page, (Value.int .i64) x.m.size, (Value.int .i64) x.m.frame, (Value.int .i64) x.m.rights, Value.bool x.dirty] 41 * R)) := by
      rw [h5t] at ht2
      unfold coreIn
      rw [h5t]
      rw [← h5t] at ht2 ⊢
      exact ht2
    have x4 := x3.set ⟨q, 0, none⟩ (.slice (some ⟨g, off + 5, none⟩) 5 (c3 - 1))
    generalize l1.tail = l2 at *
    have hc1 : ¬ c3 = 1 := by omega
    clear d0 d1 d2 d3 d4 h1 h2 x1 x2 h HC HD ht ht2 h5t hle hr x3 h3 h6
    go_wp2_with fail
    generalize w3.setCell ⟨q, 0, none⟩ (.slice (some ⟨g, off + 5, none⟩) 5 (c3 - 1)) = wz at *
    clear c0 cp cf
    have hsm := (Has.rowOSmall (e := 41) (size := 5) h4.right).1
    have c0 := Has.cell h4 0
    have cp := Has.lt h4
    have cf := Has.free h4 0
    obtain ⟨d0, d1, d2, d3, d4⟩ := h4.right.right.cells5
    have dl := h4.right.right.lt
    have hrow := (Has.p2 h4.drew).alloc (.cells #[(Value.int .i64) x.m.page, (Value.int .i64) x.m.size, (Value.int .i64) x.m.frame, (Value.int .i64) x.m.rights, Value.bool x.dirty] 41)
    go_region_law (refine step_append_hasO rfl (.tmp 31) (.tmp 33) 27 rfl Try.underlying27 elemLnR _ _ _ (by simp [Act.eval]) hrow ⟨wz.heap.size, 0, none⟩ 1 1 x.cells (by simp [Act.eval]) rfl (news_many wz.drew x.cells 41) (oneCells x) (by unfold maxLen; omega) (by omega) ?_; intro A' c' w5 h5 x5; have g0 := Has.lt h5.right; have g1 := Has.free h5.right 0; have g2 := Has.cell h5.right 0)
    all_goals
      go_wp2_with fail
      go_ret
      exact ⟨rfl, putR_shut (Has.set h5.p2 0 _), ((x4.drew.alloc _).trans x5).set _ _⟩
  · have hr : Tl.room l1 = l1 := by unfold Tl.room; rw [if_neg h6]
    rw [hr]
    have h6' : ((l1.length : Int) == 6) = false := beq_eq_false_iff_ne.2 (by omega)
    clear hr h6
    go_enter Try.func17, Try.ntmps17
    go_wp2_with fail
    refine (HC.out _).mono ?_; rintro e w2 ⟨rfl, b2⟩
    have h2 := h1.below b2
    have x2 := x1.below b2
    clear d0 d1 d2 d3 d4
    obtain ⟨d0, d1, d2, d3, d4⟩ := h2.cells5
    obtain ⟨A, c, h2⟩ := coreAt_open h2.p2
    go_wp2_with fail
    refine (HD.out _ _ _ _ h2).mono ?_; rintro e wz ⟨A, c, rfl, h4, x3⟩
    have x4 := x2.trans x3
    clear d0 d1 d2 d3 d4 h1 h2 x1 x2 h HC HD
    have hl' : l1.length ≤ 1000 := by omega
    clear hle
    have c0 : wz.cell? ⟨q, 0, none⟩ = some (.slice A l1.length c) := Has.cell h4 0
    have cp := Has.lt h4
    go_wp2_with fail
    have hsm := (Has.rowOSmall (e := 41) (size := 5) h4.right).1
    have c0 := Has.cell h4 0
    have cp := Has.lt h4
    have cf := Has.free h4 0
    obtain ⟨d0, d1, d2, d3, d4⟩ := h4.right.right.cells5
    have dl := h4.right.right.lt
    have hrow := (Has.p2 h4.drew).alloc (.cells #[(Value.int .i64) x.m.page, (Value.int .i64) x.m.size, (Value.int .i64) x.m.frame, (Value.int .i64) x.m.rights, Value.bool x.dirty] 41)
    go_region_law (refine step_append_hasO rfl (.tmp 31) (.tmp 33) 27 rfl Try.underlying27 elemLnR _ _ _ (by simp [Act.eval]) hrow ⟨wz.heap.size, 0, none⟩ 1 1 x.cells (by simp [Act.eval]) rfl (news_many wz.drew x.cells 41) (oneCells x) (by unfold maxLen; omega) (by omega) ?_; intro A' c' w5 h5 x5; have g0 := Has.lt h5.right; have g1 := Has.free h5.right 0; have g2 := Has.cell h5.right 0)
    all_goals
      go_wp2_with fail
      go_ret
      exact ⟨rfl, putR_shut (Has.set h5.p2 0 _), ((x4.drew.alloc _).trans x5).set _ _⟩
theorem putRA (q : Nat) (l : List Ln) (k : Ck) (x : Ln) (R : HProp) (w : World) (hl : Tl.Ok l) (hx : i64 x.m.page) (h : Has w (coreAt q l k * R)) :
    Calls Try.prog 17 #[.pointer (some ⟨q, 0, none⟩), .agg #[(Value.int .i64) x.m.page, (Value.int .i64) x.m.size, (Value.int .i64) x.m.frame, (Value.int .i64) x.m.rights, Value.bool x.dirty]] w (Res (Value.bool (decide (check x.m = 0))) (coreAt q (Tl.put l x) k * R) w) := by
  unfold Tl.put
  by_cases hc : check x.m = 0
  · rw [if_pos hc, decide_eq_true hc]
    exact putR_yes q l k x R w hl.lok hx (Nat.le_trans hl.len (by omega)) hc h
  · rw [if_neg hc, decide_eq_false hc]
    exact putR_no q l k x R w hc h
theorem dropRA (q : Nat) (l : List Ln) (k : Ck) (m : Mp) (R : HProp) (w : World) (hl : Tl.Ok l) (hm : i64 m.page) (h : Has w (coreAt q l k * R)) :
    Calls Try.prog 19 #[.pointer (some ⟨q, 0, none⟩), .agg #[(Value.int .i64) m.page, (Value.int .i64) m.size, (Value.int .i64) m.frame, (Value.int .i64) m.rights]] w (Res ((Value.int .i64) ((l.length : Int) - (Tl.drop l m).length)) (coreAt q (Tl.drop l m) k * R) w) := by
  obtain ⟨A, c, h⟩ := coreAt_open h
  exact (dropR q A c l k m R w hl.lok hm (Nat.le_trans hl.len (by omega)) h).mono fun _ _ ⟨_, _, a, b, c⟩ => ⟨a, coreAt_shut b, c⟩
theorem keptRA (q : Nat) (l : List Ln) (k : Ck) (p : Int) (R : HProp) (w : World) (hl : Tl.Ok l) (hp : i64 p) (h : Has w (coreAt q l k * R)) :
    Calls Try.prog 22 #[.pointer (some ⟨q, 0, none⟩), .int .i64 p] w (Pure ((Value.int .i64) (Tl.idx l p)) w) := by
  obtain ⟨A, c, h⟩ := coreAt_open h
  exact keptR q A c l k p R w hl.lok hp h
end Go.Proofs.Ytacnjjjdkpbeaaa
