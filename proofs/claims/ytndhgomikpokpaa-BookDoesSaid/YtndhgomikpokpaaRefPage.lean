/- Contracts of the document's own answer on pages: it computes the same plain functions as package page. -/
import Derived.Test.YtndhgomikpokpaaPage
import Derived.Test.YtndhgomikpokpaaFrame
namespace Go.Proofs.Ytndhgomikpokpaa
open Go.RowKit
set_option maxRecDepth 100000

theorem spanOf_any (s : Int) (w : World) : Calls Try.prog 111 #[.int .i64 s] w (Same ((Value.int .i64) (span s)) w) := by
  by_cases h0 : s < 0
  · have hy := Lib.hid (show span s = 0 by unfold span; rw [if_neg (by omega), if_neg (by omega), if_neg (by omega)])
    go_enter Try.func111, Try.ntmps111
    go_wp2
    go_ret
    exact ⟨by rw [hy.out]; rfl, rfl⟩
  by_cases h2 : 2 < s
  · have hy := Lib.hid (show span s = 0 by unfold span; rw [if_neg (by omega), if_neg (by omega), if_neg (by omega)])
    go_enter Try.func111, Try.ntmps111
    go_wp2
    go_ret
    exact ⟨by rw [hy.out]; rfl, rfl⟩
  obtain ⟨k, rfl⟩ := Int.eq_ofNat_of_zero_le (show 0 ≤ s by omega)
  have hk : k ≤ 2 := by omega
  have hy := Lib.hid (show span (k : Int) = pow8 k by
    have : k = 0 ∨ k = 1 ∨ k = 2 := by omega
    rcases this with rfl | rfl | rfl <;> rfl)
  go_enter Try.func111, Try.ntmps111
  go_wp2
  go_loop [3, 4] (fun x t => ∃ j : Nat, j ≤ k ∧ t = (Value.int .i64) j ∧ x = (Value.int .i64) (pow8 j)) (fun _ t => k - (intOf t).toNat)
  case atStart => exact ⟨0, by omega, rfl, rfl⟩
  case round =>
    obtain ⟨j, hj, rfl, rfl⟩ := hrel
    have hb : 0 ≤ pow8 j ∧ pow8 j ≤ 64 := by
      have : j = 0 ∨ j = 1 ∨ j = 2 := by omega
      rcases this with rfl | rfl | rfl <;> decide
    obtain ⟨hb0, hb1⟩ := hb
    by_cases hjk : j < k
    · go_wp2
      go_round
      case rel => exact ⟨j + 1, by omega, by go_num, by rw [show pow8 (j + 1) = pow8 j * 8 from Int.mul_comm _ _]⟩
      case measure => simp [intOf]; omega
    · obtain rfl : j = k := by omega
      go_wp2
      go_ret
      exact ⟨by rw [hy.out]; rfl, rfl⟩

theorem index_vals (p : Int) (h0 : 0 ≤ p) (h1 : p < 4096) : index p 0 = p % 8 ∧ index p 1 = p / 8 % 8 ∧ index p 2 = p / 64 % 8 ∧ index p 3 = p / 512 := by
  unfold index
  rw [if_pos ⟨h0, h1, by decide, by decide⟩, if_pos ⟨h0, h1, by decide, by decide⟩, if_pos ⟨h0, h1, by decide, by decide⟩, if_pos ⟨h0, h1, by decide, by decide⟩]
  show p / 1 % 8 = _ ∧ p / 8 % 8 = _ ∧ p / 64 % 8 = _ ∧ p / 512 % 8 = _
  refine ⟨by omega, rfl, rfl, by omega⟩
theorem indexOf_any (p l : Int) (w : World) : Calls Try.prog 31 #[.int .i64 p, .int .i64 l] w (Pure ((Value.int .i64) (index p l)) w) := by
  by_cases hp : p < 0
  · have hy := Lib.hid (show index p l = -1 by unfold index; rw [if_neg (by omega)])
    go_enter Try.func31, Try.ntmps31
    go_wp2
    go_ret
    exact ⟨by rw [hy.out]; rfl, Below.refl _ _⟩
  by_cases hp2 : 4096 ≤ p
  · have hy := Lib.hid (show index p l = -1 by unfold index; rw [if_neg (by omega)])
    go_enter Try.func31, Try.ntmps31
    go_wp2
    go_ret
    exact ⟨by rw [hy.out]; rfl, Below.refl _ _⟩
  by_cases hl : l < 0
  · have hy := Lib.hid (show index p l = -1 by unfold index; rw [if_neg (by omega)])
    go_enter Try.func31, Try.ntmps31
    go_wp2
    go_ret
    exact ⟨by rw [hy.out]; rfl, Below.refl _ _⟩
  by_cases hl2 : 4 ≤ l
  · have hy := Lib.hid (show index p l = -1 by unfold index; rw [if_neg (by omega)])
    go_enter Try.func31, Try.ntmps31
    go_wp2
    go_ret
    exact ⟨by rw [hy.out]; rfl, Below.refl _ _⟩
  obtain ⟨i0, i1, i2, i3⟩ := index_vals p (by omega) (by omega)
  have hl' : l = 0 ∨ l = 1 ∨ l = 2 ∨ l = 3 := by omega
  clear hl hl2
  rcases hl' with rfl | rfl | rfl | rfl
  · skip
    have hy := i0
    have h1 := Has.new (has_old w) #[(Value.int .i64) (p % 8), (Value.int .i64) (p / 8 % 8), (Value.int .i64) (p / 64 % 8), (Value.int .i64) (p / 512)] 3
    obtain ⟨c0, c1, c2, c3⟩ := h1.cells4
    have e1 := h1.lt
    go_enter Try.func31, Try.ntmps31
    go_wp2
    go_ret
    exact ⟨rfl, below_of1 h1.right (by (repeat (first | with_reducible assumption | with_reducible exact Ext.refl _ | with_reducible refine Ext.set ?_ _ _ | with_reducible refine Ext.alloc ?_ _ | with_reducible refine Ext.drew ?_ | with_reducible refine Ext.drewN ?_ _ | assumption | exact Ext.refl _ | refine Ext.alloc ?_ _ | refine Ext.set ?_ _ _ | refine Ext.drew ?_ | refine Ext.drewN ?_ _ | refine Ext.below ?_ (by assumption) | refine Ext.trans ?_ (by assumption))))⟩
  · skip
    have hy := i1
    have h1 := Has.new (has_old w) #[(Value.int .i64) (p % 8), (Value.int .i64) (p / 8 % 8), (Value.int .i64) (p / 64 % 8), (Value.int .i64) (p / 512)] 3
    obtain ⟨c0, c1, c2, c3⟩ := h1.cells4
    have e1 := h1.lt
    go_enter Try.func31, Try.ntmps31
    go_wp2
    go_ret
    exact ⟨rfl, below_of1 h1.right (by (repeat (first | with_reducible assumption | with_reducible exact Ext.refl _ | with_reducible refine Ext.set ?_ _ _ | with_reducible refine Ext.alloc ?_ _ | with_reducible refine Ext.drew ?_ | with_reducible refine Ext.drewN ?_ _ | assumption | exact Ext.refl _ | refine Ext.alloc ?_ _ | refine Ext.set ?_ _ _ | refine Ext.drew ?_ | refine Ext.drewN ?_ _ | refine Ext.below ?_ (by assumption) | refine Ext.trans ?_ (by assumption))))⟩
  · skip
    have hy := i2
    have h1 := Has.new (has_old w) #[(Value.int .i64) (p % 8), (Value.int .i64) (p / 8 % 8), (Value.int .i64) (p / 64 % 8), (Value.int .i64) (p / 512)] 3
    obtain ⟨c0, c1, c2, c3⟩ := h1.cells4
    have e1 := h1.lt
    go_enter Try.func31, Try.ntmps31
    go_wp2
    go_ret
    exact ⟨rfl, below_of1 h1.right (by (repeat (first | with_reducible assumption | with_reducible exact Ext.refl _ | with_reducible refine Ext.set ?_ _ _ | with_reducible refine Ext.alloc ?_ _ | with_reducible refine Ext.drew ?_ | with_reducible refine Ext.drewN ?_ _ | assumption | exact Ext.refl _ | refine Ext.alloc ?_ _ | refine Ext.set ?_ _ _ | refine Ext.drew ?_ | refine Ext.drewN ?_ _ | refine Ext.below ?_ (by assumption) | refine Ext.trans ?_ (by assumption))))⟩
  · skip
    have hy := i3
    have h1 := Has.new (has_old w) #[(Value.int .i64) (p % 8), (Value.int .i64) (p / 8 % 8), (Value.int .i64) (p / 64 % 8), (Value.int .i64) (p / 512)] 3
    obtain ⟨c0, c1, c2, c3⟩ := h1.cells4
    have e1 := h1.lt
    go_enter Try.func31, Try.ntmps31
    go_wp2
    go_ret
    exact ⟨rfl, below_of1 h1.right (by (repeat (first | with_reducible assumption | with_reducible exact Ext.refl _ | with_reducible refine Ext.set ?_ _ _ | with_reducible refine Ext.alloc ?_ _ | with_reducible refine Ext.drew ?_ | with_reducible refine Ext.drewN ?_ _ | assumption | exact Ext.refl _ | refine Ext.alloc ?_ _ | refine Ext.set ?_ _ _ | refine Ext.drew ?_ | refine Ext.drewN ?_ _ | refine Ext.below ?_ (by assumption) | refine Ext.trans ?_ (by assumption))))⟩

theorem mapFault_0 (mp mf mr : Int) (w : World) (h : 0 ≤ mp ∧ mp < 4096 ∧ 0 ≤ mf ∧ mf < 1048576 ∧ 0 ≤ mr ∧ mr ≤ 7) :
    Calls Try.prog 33 #[.agg #[(Value.int .i64) mp, (Value.int .i64) 0, (Value.int .i64) mf, (Value.int .i64) mr]] w (Pure ((Value.int .i64) (if mp % 1 ≠ 0 ∨ mf % 1 ≠ 0 then 3 else 0)) w) := by
  obtain ⟨p0, p1, f0, f1, r0, r1⟩ := h
  have h1 := Has.new (has_old w) #[(Value.int .i64) mp, (Value.int .i64) 0, (Value.int .i64) mf, (Value.int .i64) mr] 27
  have x1 := (Ext.refl w).alloc (.cells #[(Value.int .i64) mp, (Value.int .i64) 0, (Value.int .i64) mf, (Value.int .i64) mr] 27)
  have bl := below_of1 h1.right x1
  obtain ⟨c0, c1, c2, c3⟩ := h1.cells4
  have v0 := via_cell c0
  have v2 := via_cell c2
  clear c0 c1 c2 c3 h1 x1
  have hs : span 0 = 1 := rfl
  rw [if_neg (by omega)]
  go_enter Try.func33, Try.ntmps33
  go_wp2_with (first | (go_at_call 111; refine (spanOf_any _ _).mono ?_; rintro e w' ⟨rfl, rfl⟩))
  refine wp_region_via (by kernel_rfl) (by kernel_rfl) ?_
  repeat (first | go_big_quiet_step (fail) | quiet_step (fail))
  refine wpQuiet_nil ?_
  intro _ hw'
  obtain ⟨uq, hw''⟩ := hw'
  subst hw''
  go_wp2
  go_ret
  exact ⟨rfl, bl.trans ((via_below _ _).mono (by simp))⟩
theorem mapFault_1 (mp mf mr : Int) (w : World) (h : 0 ≤ mp ∧ mp < 4096 ∧ 0 ≤ mf ∧ mf < 1048576 ∧ 0 ≤ mr ∧ mr ≤ 7) :
    Calls Try.prog 33 #[.agg #[(Value.int .i64) mp, (Value.int .i64) 1, (Value.int .i64) mf, (Value.int .i64) mr]] w (Pure ((Value.int .i64) (if mp % 8 ≠ 0 ∨ mf % 8 ≠ 0 then 3 else 0)) w) := by
  obtain ⟨p0, p1, f0, f1, r0, r1⟩ := h
  have h1 := Has.new (has_old w) #[(Value.int .i64) mp, (Value.int .i64) 1, (Value.int .i64) mf, (Value.int .i64) mr] 27
  have x1 := (Ext.refl w).alloc (.cells #[(Value.int .i64) mp, (Value.int .i64) 1, (Value.int .i64) mf, (Value.int .i64) mr] 27)
  have bl := below_of1 h1.right x1
  obtain ⟨c0, c1, c2, c3⟩ := h1.cells4
  have v0 := via_cell c0
  have v2 := via_cell c2
  clear c0 c1 c2 c3 h1 x1
  have hs : span 1 = 8 := rfl
  cases g0 : (mp / 8 * 8 != mp) with
  | false =>
    cases g1 : (mf / 8 * 8 != mf) with
    | false =>
      rw [show (if mp % 8 ≠ 0 ∨ mf % 8 ≠ 0 then 3 else 0) = (0 : Int) by simp only [bne_eq_false_iff_eq] at g0 g1; rw [if_neg (by omega)]]
      go_enter Try.func33, Try.ntmps33
      go_wp2_with (first | (go_at_call 111; refine (spanOf_any _ _).mono ?_; rintro e w' ⟨rfl, rfl⟩))
      refine wp_region_via (by kernel_rfl) (by kernel_rfl) ?_
      repeat (first | go_big_quiet_step (fail) | quiet_step (fail))
      refine wpQuiet_nil ?_
      intro _ hw'
      obtain ⟨uq, hw''⟩ := hw'
      subst hw''
      go_wp2
      go_ret
      exact ⟨rfl, bl.trans ((via_below _ _).mono (by simp))⟩
    | true =>
      rw [show (if mp % 8 ≠ 0 ∨ mf % 8 ≠ 0 then 3 else 0) = (3 : Int) by simp only [bne_iff_ne] at g1; rw [if_pos (by omega)]]
      go_enter Try.func33, Try.ntmps33
      go_wp2_with (first | (go_at_call 111; refine (spanOf_any _ _).mono ?_; rintro e w' ⟨rfl, rfl⟩))
      refine wp_region_via (by kernel_rfl) (by kernel_rfl) ?_
      repeat (first | go_big_quiet_step (fail) | quiet_step (fail))
      refine wpQuiet_nil ?_
      intro _ hw'
      obtain ⟨uq, hw''⟩ := hw'
      subst hw''
      go_wp2
      go_ret
      exact ⟨rfl, bl.trans ((via_below _ _).mono (by simp))⟩
  | true =>
    rw [show (if mp % 8 ≠ 0 ∨ mf % 8 ≠ 0 then 3 else 0) = (3 : Int) by simp only [bne_iff_ne] at g0; rw [if_pos (by omega)]]
    go_enter Try.func33, Try.ntmps33
    go_wp2_with (first | (go_at_call 111; refine (spanOf_any _ _).mono ?_; rintro e w' ⟨rfl, rfl⟩))
    refine wp_region_via (by kernel_rfl) (by kernel_rfl) ?_
    repeat (first | go_big_quiet_step (fail) | quiet_step (fail))
    refine wpQuiet_nil ?_
    intro _ hw'
    obtain ⟨uq, hw''⟩ := hw'
    subst hw''
    go_wp2
    go_ret
    exact ⟨rfl, bl.trans ((via_below _ _).mono (by simp))⟩
theorem mapFault_2 (mp mf mr : Int) (w : World) (h : 0 ≤ mp ∧ mp < 4096 ∧ 0 ≤ mf ∧ mf < 1048576 ∧ 0 ≤ mr ∧ mr ≤ 7) :
    Calls Try.prog 33 #[.agg #[(Value.int .i64) mp, (Value.int .i64) 2, (Value.int .i64) mf, (Value.int .i64) mr]] w (Pure ((Value.int .i64) (if mp % 64 ≠ 0 ∨ mf % 64 ≠ 0 then 3 else 0)) w) := by
  obtain ⟨p0, p1, f0, f1, r0, r1⟩ := h
  have h1 := Has.new (has_old w) #[(Value.int .i64) mp, (Value.int .i64) 2, (Value.int .i64) mf, (Value.int .i64) mr] 27
  have x1 := (Ext.refl w).alloc (.cells #[(Value.int .i64) mp, (Value.int .i64) 2, (Value.int .i64) mf, (Value.int .i64) mr] 27)
  have bl := below_of1 h1.right x1
  obtain ⟨c0, c1, c2, c3⟩ := h1.cells4
  have v0 := via_cell c0
  have v2 := via_cell c2
  clear c0 c1 c2 c3 h1 x1
  have hs : span 2 = 64 := rfl
  cases g0 : (mp / 64 * 64 != mp) with
  | false =>
    cases g1 : (mf / 64 * 64 != mf) with
    | false =>
      rw [show (if mp % 64 ≠ 0 ∨ mf % 64 ≠ 0 then 3 else 0) = (0 : Int) by simp only [bne_eq_false_iff_eq] at g0 g1; rw [if_neg (by omega)]]
      go_enter Try.func33, Try.ntmps33
      go_wp2_with (first | (go_at_call 111; refine (spanOf_any _ _).mono ?_; rintro e w' ⟨rfl, rfl⟩))
      refine wp_region_via (by kernel_rfl) (by kernel_rfl) ?_
      repeat (first | go_big_quiet_step (fail) | quiet_step (fail))
      refine wpQuiet_nil ?_
      intro _ hw'
      obtain ⟨uq, hw''⟩ := hw'
      subst hw''
      go_wp2
      go_ret
      exact ⟨rfl, bl.trans ((via_below _ _).mono (by simp))⟩
    | true =>
      rw [show (if mp % 64 ≠ 0 ∨ mf % 64 ≠ 0 then 3 else 0) = (3 : Int) by simp only [bne_iff_ne] at g1; rw [if_pos (by omega)]]
      go_enter Try.func33, Try.ntmps33
      go_wp2_with (first | (go_at_call 111; refine (spanOf_any _ _).mono ?_; rintro e w' ⟨rfl, rfl⟩))
      refine wp_region_via (by kernel_rfl) (by kernel_rfl) ?_
      repeat (first | go_big_quiet_step (fail) | quiet_step (fail))
      refine wpQuiet_nil ?_
      intro _ hw'
      obtain ⟨uq, hw''⟩ := hw'
      subst hw''
      go_wp2
      go_ret
      exact ⟨rfl, bl.trans ((via_below _ _).mono (by simp))⟩
  | true =>
    rw [show (if mp % 64 ≠ 0 ∨ mf % 64 ≠ 0 then 3 else 0) = (3 : Int) by simp only [bne_iff_ne] at g0; rw [if_pos (by omega)]]
    go_enter Try.func33, Try.ntmps33
    go_wp2_with (first | (go_at_call 111; refine (spanOf_any _ _).mono ?_; rintro e w' ⟨rfl, rfl⟩))
    refine wp_region_via (by kernel_rfl) (by kernel_rfl) ?_
    repeat (first | go_big_quiet_step (fail) | quiet_step (fail))
    refine wpQuiet_nil ?_
    intro _ hw'
    obtain ⟨uq, hw''⟩ := hw'
    subst hw''
    go_wp2
    go_ret
    exact ⟨rfl, bl.trans ((via_below _ _).mono (by simp))⟩
theorem mapFault_any (m : Mp) (w : World) : Calls Try.prog 33 #[.agg #[(Value.int .i64) m.page, (Value.int .i64) m.size, (Value.int .i64) m.frame, (Value.int .i64) m.rights]] w (Pure ((Value.int .i64) (check m)) w) := by
  have bl := below_of1 (Has.new (has_old w) #[(Value.int .i64) m.page, (Value.int .i64) m.size, (Value.int .i64) m.frame, (Value.int .i64) m.rights] 27).right ((Ext.refl w).alloc (.cells #[(Value.int .i64) m.page, (Value.int .i64) m.size, (Value.int .i64) m.frame, (Value.int .i64) m.rights] 27))
  by_cases s0 : span m.size = 0
  · skip
    have hy := Lib.hid (show check m = 2 by unfold check; rw [if_pos s0])
    go_enter Try.func33, Try.ntmps33
    go_wp2_with (first | (go_at_call 111; refine (spanOf_any _ _).mono ?_; rintro e w' ⟨rfl, rfl⟩))
    go_ret
    exact ⟨by rw [hy.out]; rfl, bl⟩
  have s1 : m.size = 0 ∨ m.size = 1 ∨ m.size = 2 := by unfold span at s0; split at s0 <;> (try split at s0) <;> (try split at s0) <;> simp_all
  have s0' : (span m.size == 0) = false := by simpa using s0
  by_cases p0 : m.page < 0
  · skip
    have hy := Lib.hid (show check m = 1 by unfold check; rw [if_neg s0, if_pos (by omega)])
    go_enter Try.func33, Try.ntmps33
    go_wp2_with (first | (go_at_call 111; refine (spanOf_any _ _).mono ?_; rintro e w' ⟨rfl, rfl⟩))
    go_ret
    exact ⟨by rw [hy.out]; rfl, bl⟩
  by_cases p1 : 4096 ≤ m.page
  · skip
    have hy := Lib.hid (show check m = 1 by unfold check; rw [if_neg s0, if_pos (by omega)])
    go_enter Try.func33, Try.ntmps33
    go_wp2_with (first | (go_at_call 111; refine (spanOf_any _ _).mono ?_; rintro e w' ⟨rfl, rfl⟩))
    go_ret
    exact ⟨by rw [hy.out]; rfl, bl⟩
  by_cases f0 : m.frame < 0
  · skip
    have hy := Lib.hid (show check m = 1 by unfold check; rw [if_neg s0, if_pos (by omega)])
    go_enter Try.func33, Try.ntmps33
    go_wp2_with (first | (go_at_call 111; refine (spanOf_any _ _).mono ?_; rintro e w' ⟨rfl, rfl⟩))
    go_ret
    exact ⟨by rw [hy.out]; rfl, bl⟩
  by_cases f1 : 1048576 ≤ m.frame
  · skip
    have hy := Lib.hid (show check m = 1 by unfold check; rw [if_neg s0, if_pos (by omega)])
    go_enter Try.func33, Try.ntmps33
    go_wp2_with (first | (go_at_call 111; refine (spanOf_any _ _).mono ?_; rintro e w' ⟨rfl, rfl⟩))
    go_ret
    exact ⟨by rw [hy.out]; rfl, bl⟩
  by_cases r0 : m.rights < 0
  · skip
    have hy := Lib.hid (show check m = 1 by unfold check; rw [if_neg s0, if_pos (by omega)])
    go_enter Try.func33, Try.ntmps33
    go_wp2_with (first | (go_at_call 111; refine (spanOf_any _ _).mono ?_; rintro e w' ⟨rfl, rfl⟩))
    go_ret
    exact ⟨by rw [hy.out]; rfl, bl⟩
  by_cases r1 : 7 < m.rights
  · skip
    have hy := Lib.hid (show check m = 1 by unfold check; rw [if_neg s0, if_pos (by omega)])
    go_enter Try.func33, Try.ntmps33
    go_wp2_with (first | (go_at_call 111; refine (spanOf_any _ _).mono ?_; rintro e w' ⟨rfl, rfl⟩))
    go_ret
    exact ⟨by rw [hy.out]; rfl, bl⟩
  have e : check m = if m.page % span m.size ≠ 0 ∨ m.frame % span m.size ≠ 0 then 3 else 0 := by unfold check; rw [if_neg s0, if_neg (by omega)]
  rw [e]
  obtain ⟨mp, ms, mf, mr⟩ := m
  dsimp only at *
  rcases s1 with rfl | rfl | rfl
  · exact mapFault_0 _ _ _ _ ⟨by omega, by omega, by omega, by omega, by omega, by omega⟩
  · exact mapFault_1 _ _ _ _ ⟨by omega, by omega, by omega, by omega, by omega, by omega⟩
  · exact mapFault_2 _ _ _ _ ⟨by omega, by omega, by omega, by omega, by omega, by omega⟩
end Go.Proofs.Ytndhgomikpokpaa
