/- Contracts of the document's own answer on pages: it computes the same plain functions as package page. -/
import Derived.Test.YtndhgomikpokpaaPage
import Derived.Test.YtndhgomikpokpaaFrame
namespace Go.Proofs.Ytndhgomikpokpaa
open Go.RowKit
set_option maxRecDepth 100000

theorem spanOf_any (s : Int) (w : World) : Calls Try.prog 111 #[.int .i64 s] w (Same ((Value.int .i64) (span s)) w) := by
  by_cases h0 : s < 0
  · have hy := Lib.hid (show span s = 0 by unfold span; rw [if_neg (by omega), if_neg (by omega), if_neg (by omega)])
    go_enter Try.func111, Try.ntmps111
    go_wp2
    go_ret
    exact ⟨by rw [hy.out]; rfl, rfl⟩
  by_cases h2 : 2 < s
  · have hy := Lib.hid (show span s = 0 by unfold span; rw [if_neg (by omega), if_neg (by omega), if_neg (by omega)])
    go_enter Try.func111, Try.ntmps111
    go_wp2
    go_ret
    exact ⟨by rw [hy.out]; rfl, rfl⟩
  obtain ⟨k, rfl⟩ := Int.eq_ofNat_of_zero_le (show 0 ≤ s by omega)
  have hk : k ≤ 2 := by omega
  have hy := Lib.hid (show span (k : Int) = pow8 k by
    have : k = 0 ∨ k = 1 ∨ k = 2 := by omega
    rcases this with rfl | rfl | rfl <;> rfl)
  go_enter Try.func111, Try.ntmps111
  go_wp2
  go_loop [3, 4] (fun x t => ∃ j : Nat, j ≤ k ∧ t = (Value.int .i64) j ∧ x = (Value.int .i64) (pow8 j)) (fun _ t => k - (intOf t).toNat)
  case atStart => exact ⟨0, by omega, rfl, rfl⟩
  case round =>
    obtain ⟨j, hj, rfl, rfl⟩ := hrel
    have hb : 0 ≤ pow8 j ∧ pow8 j ≤ 64 := by
      have : j = 0 ∨ j = 1 ∨ j = 2 := by omega
      rcases this with rfl | rfl | rfl <;> decide
    obtain ⟨hb0, hb1⟩ := hb
    by_cases hjk : j < k
    · go_wp2
      go_round
      case rel => exact ⟨j + 1, by omega, by go_num, by rw [show pow8 (j + 1) = pow8 j * 8 from Int.mul_comm _ _]⟩
      case measure => simp [intOf]; omega
    · obtain rfl : j = k := by omega
      go_wp2
      go_ret
      exact ⟨by rw [hy.out]; rfl, rfl⟩

theorem index_vals (p : Int) (h0 : 0 ≤ p) (h1 : p < 4096) : index p 0 = p % 8 ∧ index p 1 = p / 8 % 8 ∧ index p 2 = p / 64 % 8 ∧ index p 3 = p / 512 := by
  unfold index
  rw [if_pos ⟨h0, h1, by decide, by decide⟩, if_pos ⟨h0, h1, by decide, by decide⟩, if_pos ⟨h0, h1, by decide, by decide⟩, if_pos ⟨h0, h1, by decide, by decide⟩]
  show p / 1 % 8 = _ ∧ p / 8 % 8 = _ ∧ p / 64 % 8 = _ ∧ p / 512 % 8 = _
  refine ⟨by omega, rfl, rfl, by omega⟩
theorem indexOf_any (p l : Int) (w : World) : Calls Try.prog 31 #[.int .i64 p, .int .i64 l] w (Pure ((Value.int .i64) (index p l)) w) := by
  by_cases hp : p < 0
  · have hy := Lib.hid (show index p l = -1 by unfold index; rw [if_neg (by omega)])
    go_enter Try.func31, Try.ntmps31
    go_wp2
    go_ret
    exact ⟨by rw [hy.out]; rfl, Below.refl _ _⟩
  by_cases hp2 : 4096 ≤ p
  · have hy := Lib.hid (show index p l = -1 by unfold index; rw [if_neg (by omega)])
    go_enter Try.func31, Try.ntmps31
    go_wp2
    go_ret
    exact ⟨by rw [hy.out]; rfl, Below.refl _ _⟩
  by_cases hl : l < 0
  · have hy := Lib.hid (show index p l = -1 by unfold index; rw [if_neg (by omega)])
    go_enter Try.func31, Try.ntmps31
    go_wp2
    go_ret
    exact ⟨by rw [hy.out]; rfl, Below.refl _ _⟩
  by_cases hl2 : 4 ≤ l
  · have hy := Lib.hid (show index p l = -1 by unfold index; rw [if_neg (by omega)])
    go_enter Try.func31, Try.ntmps31
    go_wp2
    go_ret
    exact ⟨by rw [hy.out]; rfl, Below.refl _ _⟩
  obtain ⟨i0, i1, i2, i3⟩ := index_vals p (by omega) (by omega)
  have hl' : l = 0 ∨ l = 1 ∨ l = 2 ∨ l = 3 := by omega
  clear hl hl2
  rcases hl' with rfl | rfl | rfl | rfl
  · skip
    have hy := i0
    have h1 := Has.new (has_old w) #[(Value.int .i64) (p % 8), (Value.int .i64) (p / 8 % 8), (Value.int .i64) (p / 64 % 8), (Value.int .i64) (p / 512)] 3
    obtain ⟨c0, c1, c2, c3⟩ := h1.cells4
    have e1 := h1.lt
    go_enter Try.func31, Try.ntmps31
    go_wp2
    go_ret
    exact ⟨rfl, below_of1 h1.right (by (repeat (first | with_reducible assumption | with_reducible exact Ext.refl _ | with_reducible refine Ext.set ?_ _ _ | with_reducible refine Ext.alloc ?_ _ | with_reducible refine Ext.drew ?_ | with_reducible refine Ext.drewN ?_ _ | assumption | exact Ext.refl _ | refine Ext.alloc ?_ _ | refine Ext.set ?_ _ _ | refine Ext.drew ?_ | refine Ext.drewN ?_ _ | refine Ext.below ?_ (by assumption) | refine Ext.trans ?_ (by assumption))))⟩
  · skip
    have hy := i1
    have h1 := Has.new (has_old w) #[(Value.int .i64) (p % 8), (Value.int .i64) (p / 8 % 8), (Value.int .i64) (p / 64 % 8), (Value.int .i64) (p / 512)] 3
    obtain ⟨c0, c1, c2, c3⟩ := h1.cells4
    have e1 := h1.lt
    go_enter Try.func31, Try.ntmps31
    go_wp2
    go_ret
    exact ⟨rfl, below_of1 h1.right (by (repeat (first | with_reducible assumption | with_reducible exact Ext.refl _ | with_reducible refine Ext.set ?_ _ _ | with_reducible refine Ext.alloc ?_ _ | with_reducible refine Ext.drew ?_ | with_reducible refine Ext.drewN ?_ _ | assumption | exact Ext.refl _ | refine Ext.alloc ?_ _ | refine Ext.set ?_ _ _ | refine Ext.drew ?_ | refine Ext.drewN ?_ _ | refine Ext.below ?_ (by assumption) | refine Ext.trans ?_ (by assumption))))⟩
  · skip
    have hy := i2
    have h1 := Has.new (has_old w) #[(Value.int .i64) (p % 8), (Value.int .i64) (p / 8 % 8), (Value.int .i64) (p / 64 % 8), (Value.int .i64) (p / 512)] 3
    obtain ⟨c0, c1, c2, c3⟩ := h1.cells4
    have e1 := h1.lt
    go_enter Try.func31, Try.ntmps31
    go_wp2
    go_ret
    exact ⟨rfl, below_of1 h1.right (by (repeat (first | with_reducible assumption | with_reducible exact Ext.refl _ | with_reducible refine Ext.set ?_ _ _ | with_reducible refine Ext.alloc ?_ _ | with_reducible refine Ext.drew ?_ | with_reducible refine Ext.drewN ?_ _ | assumption | exact Ext.refl _ | refine Ext.alloc ?_ _ | refine Ext.set ?_ _ _ | refine Ext.drew ?_ | refine Ext.drewN ?_ _ | refine Ext.below ?_ (by assumption) | refine Ext.trans ?_ (by assumption))))⟩
  · skip
    have hy := i3
    have h1 := Has.new (has_old w) #[(Value.int .i64) (p % 8), (Value.int .i64) (p / 8 % 8), (Value.int .i64) (p / 64 % 8), (Value.int .i64) (p / 512)] 3
    obtain ⟨c0, c1, c2, c3⟩ := h1.cells4
    have e1 := h1.lt
    go_enter Try.func31, Try.ntmps31
    go_wp2
    go_ret
    exact ⟨rfl, below_of1 h1.right (by (repeat (first | with_reducible assumption | with_reducible exact Ext.refl _ | with_reducible refine Ext.set ?_ _ _ | with_reducible refine Ext.alloc ?_ _ | with_reducible refine Ext.drew ?_ | with_reducible refine Ext.drewN ?_ _ | assumption | exact Ext.refl _ | refine Ext.alloc ?_ _ | refine Ext.set ?_ _ _ | refine Ext.drew ?_ | refine Ext.drewN ?_ _ | refine Ext.below ?_ (by assumption) | refine Ext.trans ?_ (by assumption))))⟩

theorem mapFault_0 (mp mf mr : Int) (w : World) (h : 0 ≤ mp ∧ mp < 4096 ∧ 0 ≤ mf ∧ mf < 1048576 ∧ 0 ≤ mr ∧ mr ≤ 7) :
    Calls Try.prog 33 #[.agg #[(Value.int .i64) mp, (Value.int .i64) 0, (Value.int .i64) mf, (Value.int .i64) mr]] w (Pure ((Value.int .i64) (if mp % 1 ≠ 0 ∨ mf % 1 ≠ 0 then 3 else 0)) w) := by
  obtain ⟨p0, p1, f0, f1, r0, r1⟩ := h
  have h1 := Has.new (has_old w) #[(Value.int .i64) mp, (Value.int .i64) 0, (Value.int .i64) mf, (Value.int .i64) mr] 27
  have x1 := (Ext.refl w).alloc (.cells #[(Value.int .i64) mp, (Value.int .i64) 0, (Value.int .i64) mf, (Value.int .i64) mr] 27)
  have bl := below_of1 h1.right x1
  obtain ⟨c0, c1, c2, c3⟩ := h1.cells4
  have v0 := via_cell c0
  have v2 := via_cell c2
  clear c0 c1 c2 c3 h1 x1
  have hs : span 0 = 1 := rfl
  rw [if_neg (by omega)]
  go_enter Try.func33, Try.ntmps33
  go_wp2_with (first | (go_at_call 111; refine (spanOf_any _ _).mono ?_; rintro e w' ⟨rfl, rfl⟩))
  refine wp_region_via (by kernel_rfl) (by kernel_rfl) ?_
  repeat (first | go_big_quiet_step (fail) | quiet_step (fail))
  refine wpQuiet_nil ?_
  intro _ hw'
  obtain ⟨uq, hw''⟩ := hw'
  subst hw''
  go_wp2
  go_ret
  exact ⟨rfl, bl.trans ((via_below _ _).mono (by simp))⟩
theorem mapFault_1 (mp mf mr : Int) (w : World) (h : 0 ≤ mp ∧ mp < 4096 ∧ 0 ≤ mf ∧ mf < 1048576 ∧ 0 ≤ mr ∧ mr ≤ 7) :
    Calls Try.prog 33 #[.agg #[(Value.int .i64) mp, (Value.int .i64) 1, (Value.int .i64) mf, (Value.int .i64) mr]] w (Pure ((Value.int .i64) (if mp % 8 ≠ 0 ∨ mf % 8 ≠ 0 then 3 else 0)) w) := by
  obtain ⟨p0, p1, f0, f1, r0, r1⟩ := h
  have h1 := Has.new (has_old w) #[(Value.int .i64) mp, (Value.int .i64) 1, (Value.int .i64) mf, (Value.int .i64) mr] 27
  have x1 := (Ext.refl w).alloc (.cells #[(Value.int .i64) mp, (Value.int .i64) 1, (Value.int .i64) mf, (Value.int .i64) mr] 27)
  have bl := below_of1 h1.right x1
  obtain ⟨c0, c1, c2, c3⟩ := h1.cells4
  have v0 := via_cell c0
  have v2 := via_cell c2
  clear c0 c1 c2 c3 h1 x1
  have hs : span 1 = 8 := rfl
  cases g0 : (mp / 8 * 8 != mp) with
  | false =>
    cases g1 : (mf / 8 * 8 != mf) with
    | false =>
      rw [show (if mp % 8 ≠ 0 ∨ mf % 8 ≠ 0 then 3 else 0) = (0 : Int) by simp only [bne_eq_false_iff_eq] at g0 g1; rw [if_neg (by omega)]]
      go_enter Try.func33, Try.ntmps33
      go_wp2_with (first | (go_at_call 111; refine (spanOf_any _ _).mono ?_; rintro e w' ⟨rfl, rfl⟩))
      refine wp_region_via (by kernel_rfl) (by kernel_rfl) ?_
      repeat (first | go_big_quiet_step (fail) | quiet_step (fail))
      refine wpQuiet_nil ?_
      intro _ hw'
      obtain ⟨uq, hw''⟩ := hw'
      subst hw''
      go_wp2
      go_ret
      exact ⟨rfl, bl.trans ((via_below _ _).mono (by simp))⟩
    | true =>
      rw [show (if mp % 8 ≠ 0 ∨ mf % 8 ≠ 0 then 3 else 0) = (3 : Int) by simp only [bne_iff_ne] at g1; rw [if_pos (by omega)]]
      go_enter Try.func33, Try.ntmps33
      go_wp2_with (first | (go_at_call 111; refine (spanOf_any _ _).mono ?_; rintro e w' ⟨rfl, rfl⟩))
      refine wp_region_via (by kernel_rfl) (by kernel_rfl) ?_
      repeat (first | go_big_quiet_step (fail) | quiet_step (fail))
      refine wpQuiet_nil ?_
      intro _ hw'
      obtain ⟨uq, hw''⟩ := hw'
      subst hw''
      go_wp2
      go_ret
      exact ⟨rfl, bl.trans ((via_below _ _).mono (by simp))⟩
  | true =>
    rw [show (if mp % 8 ≠ 0 ∨ mf % 8 ≠ 0 then 3 else 0) = (3 : Int) by simp only [bne_iff_ne] at g0; rw [if_pos (by omega)]]
    go_enter Try.func33, Try.ntmps33
    go_wp2_with (first | (go_at_call 111; refine (spanOf_any _ _).mono ?_; rintro e w' ⟨rfl, rfl⟩))
    refine wp_region_via (by kernel_rfl) (by kernel_rfl) ?_
    repeat (first | go_big_quiet_step (fail) | quiet_step (fail))
    refine wpQuiet_nil ?_
    intro _ hw'
    obtain ⟨uq, hw''⟩ := hw'
    subst hw''
    go_wp2
    go_ret
    exact ⟨rfl, bl.trans ((via_below _ _).mono (by simp))⟩
theorem mapFault_2 (mp mf mr : Int) (w : World) (h : 0 ≤ mp ∧ mp < 4096 ∧ 0 ≤ mf ∧ mf < 1048576 ∧ 0 ≤ mr ∧ mr ≤ 7) :
    Calls Try.prog 33 #[.agg #[(Value.int .i64) mp, (Value.int .i64) 2, (Value.int .i64) mf, (Value.int .i64) mr]] w (Pure ((Value.int .i64) (if mp % 64 ≠ 0 ∨ mf % 64 ≠ 0 then 3 else 0)) w) := by
  obtain ⟨p0, p1, f0, f1, r0, r1⟩ := h
  have h1 := Has.new (has_old w) #[(Value.int .i64) mp, (Value.int .i64) 2, (Value.int .i64) mf, (Value.int .i64) mr] 27
  have x1 := (Ext.refl w).alloc (.cells #[(Value.int .i64) mp, (Value.int .i64) 2, (Value.int .i64) mf, (Value.int .i64) mr] 27)
  have bl := below_of1 h1.right x1
  obtain ⟨c0, c1, c2, c3⟩ := h1.cells4
  have v0 := via_cell c0
  have v2 := via_cell c2
  clear c0 c1 c2 c3 h1 x1
  have hs : span 2 = 64 := rfl
  cases g0 : (mp / 64 * 64 != mp) with
  | false =>
    cases g1 : (mf / 64 * 64 != mf) with
    | false =>
      rw [show (if mp % 64 ≠ 0 ∨ mf % 64 ≠ 0 then 3 else 0) = (0 : Int) by simp only [bne_eq_false_iff_eq] at g0 g1; rw [if_neg (by omega)]]
      go_enter Try.func33, Try.ntmps33
      go_wp2_with (first | (go_at_call 111; refine (spanOf_any _ _).mono ?_; rintro e w' ⟨rfl, rfl⟩))
      refine wp_region_via (by kernel_rfl) (by kernel_rfl) ?_
      repeat (first | go_big_quiet_step (fail) | quiet_step (fail))
      refine wpQuiet_nil ?_
      intro _ hw'
      obtain ⟨uq, hw''⟩ := hw'
      subst hw''
      go_wp2
      go_ret
      exact ⟨rfl, bl.trans ((via_below _ _).mono (by simp))⟩
    | true =>
      rw [show (if mp % 64 ≠ 0 ∨ mf % 64 ≠ 0 then 3 else 0) = (3 : Int) by simp only [bne_iff_ne] at g1; rw [if_pos (by omega)]]
      go_enter Try.func33, Try.ntmps33
      go_wp2_with (first | (go_at_call 111; refine (spanOf_any _ _).mono ?_; rintro e w' ⟨rfl, rfl⟩))
      refine wp_region_via (by kernel_rfl) (by kernel_rfl) ?_
      repeat (first | go_big_quiet_step (fail) | quiet_step (fail))
      refine wpQuiet_nil ?_
      intro _ hw'
      obtain ⟨uq, hw''⟩ := hw'
      subst hw''
      go_wp2
      go_ret
      exact ⟨rfl, bl.trans ((via_below _ _).mono (by simp))⟩
  | true =>
    rw [show (if mp % 64 ≠ 0 ∨ mf % 64 ≠ 0 then 3 else 0) = (3 : Int) by simp only [bne_iff_ne] at g0; rw [if_pos (by omega)]]
    go_enter Try.func33, Try.ntmps33
    go_wp2_with (first | (go_at_call 111; refine (spanOf_any _ _).mono ?_; rintro e w' ⟨rfl, rfl⟩))
    refine wp_region_via (by kernel_rfl) (by kernel_rfl) ?_
    repeat (first | go_big_quiet_step (fail) | quiet_step (fail))
    refine wpQuiet_nil ?_
    intro _ hw'
    obtain ⟨uq, hw''⟩ := hw'
    subst hw''
    go_wp2
    go_ret
    exact ⟨rfl, bl.trans ((via_below _ _).mono (by simp))⟩
theorem mapFault_any (m : Mp) (w : World) : Calls Try.prog 33 #[.agg #[(Value.int .i64) m.page, (Value.int .i64) m.size, (Value.int .i64) m.frame, (Value.int .i64) m.rights]] w (Pure ((Value.int .i64) (check m)) w) := by
  have bl := below_of1 (Has.new (has_old w) #[(Value.int .i64) m.page, (Value.int .i64) m.size, (Value.int .i64) m.frame, (Value.int .i64) m.rights] 27).right ((Ext.refl w).alloc (.cells #[(Value.int .i64) m.page, (Value.int .i64) m.size, (Value.int .i64) m.frame, (Value.int .i64) m.rights] 27))
  by_cases s0 : span m.size = 0
  · skip
    have hy := Lib.hid (show check m = 2 by unfold check; rw [if_pos s0])
    go_enter Try.func33, Try.ntmps33
    go_wp2_with (first | (go_at_call 111; refine (spanOf_any _ _).mono ?_; rintro e w' ⟨rfl, rfl⟩))
    go_ret
    exact ⟨by rw [hy.out]; rfl, bl⟩
  have s1 : m.size = 0 ∨ m.size = 1 ∨ m.size = 2 := by unfold span at s0; split at s0 <;> (try split at s0) <;> (try split at s0) <;> simp_all
  have s0' : (span m.size == 0) = false := by simpa using s0
  by_cases p0 : m.page < 0
  · skip
    have hy := Lib.hid (show check m = 1 by unfold check; rw [if_neg s0, if_pos (by omega)])
    go_enter Try.func33, Try.ntmps33
    go_wp2_with (first | (go_at_call 111; refine (spanOf_any _ _).mono ?_; rintro e w' ⟨rfl, rfl⟩))
    go_ret
    exact ⟨by rw [hy.out]; rfl, bl⟩
  by_cases p1 : 4096 ≤ m.page
  · skip
    have hy := Lib.hid (show check m = 1 by unfold check; rw [if_neg s0, if_pos (by omega)])
    go_enter Try.func33, Try.ntmps33
    go_wp2_with (first | (go_at_call 111; refine (spanOf_any _ _).mono ?_; rintro e w' ⟨rfl, rfl⟩))
    go_ret
    exact ⟨by rw [hy.out]; rfl, bl⟩
  by_cases f0 : m.frame < 0
  · skip
    have hy := Lib.hid (show check m = 1 by unfold check; rw [if_neg s0, if_pos (by omega)])
    go_enter Try.func33, Try.ntmps33
    go_wp2_with (first | (go_at_call 111; refine (spanOf_any _ _).mono ?_; rintro e w' ⟨rfl, rfl⟩))
    go_ret
    exact ⟨by rw [hy.out]; rfl, bl⟩
  by_cases f1 : 1048576 ≤ m.frame
  · skip
    have hy := Lib.hid (show check m = 1 by unfold check; rw [if_neg s0, if_pos (by omega)])
    go_enter Try.func33, Try.ntmps33
    go_wp2_with (first | (go_at_call 111; refine (spanOf_any _ _).mono ?_; rintro e w' ⟨rfl, rfl⟩))
    go_ret
    exact ⟨by rw [hy.out]; rfl, bl⟩
  by_cases r0 : m.rights < 0
  · skip
    have hy := Lib.hid (show check m = 1 by unfold check; rw [if_neg s0, if_pos (by omega)])
    go_enter Try.func33, Try.ntmps33
    go_wp2_with (first | (go_at_call 111; refine (spanOf_any _ _).mono ?_; rintro e w' ⟨rfl, rfl⟩))
    go_ret
    exact ⟨by rw [hy.out]; rfl, bl⟩
  by_cases r1 : 7 < m.rights
  · skip
    have hy := Lib.hid (show check m = 1 by unfold check; rw [if_neg s0, if_pos (by omega)])
    go_enter Try.func33, Try.ntmps33
    go_wp2_with (first | (go_at_call 111; refine (spanOf_any _ _).mono ?_; rintro e w' ⟨rfl, rfl⟩))
    go_ret
    exact ⟨by rw [hy.out]; rfl, bl⟩
  have e : check m = if m.page % span m.size ≠ 0 ∨ m.frame % span m.size ≠ 0 then 3 else 0 := by unfold check; rw [if_neg s0, if_neg (by omega)]
  rw [e]
  obtain ⟨mp, ms, mf, mr⟩ := m
  dsimp only at *
  rcases s1 with rfl | rfl | rfl
  · exact mapFault_0 _ _ _ _ ⟨by omega, by omega, by omega, by omega, by omega, by omega⟩
  · exact mapFault_1 _ _ _ _ ⟨by omega, by omega, by omega, by omega, by omega, by omega⟩
  · exact mapFault_2 _ _ _ _ ⟨by omega, by omega, by omega, by omega, by omega, by omega⟩
end Go.Proofs.Ytndhgomikpokpaa

namespace Go.Proofs.Ytndhgomikpokpaa
open Go.RowKit
set_option maxRecDepth 100000
theorem span_le (s : Int) : 0 ≤ span s ∧ span s ≤ 64 := by unfold span; split <;> (try split) <;> (try split) <;> omega

theorem refHas_any (m : Mp) (p : Int) (w : World) (hm : i64 m.page) (hp : i64 p) :
    Calls Try.prog 35 #[.agg #[(Value.int .i64) m.page, (Value.int .i64) m.size, (Value.int .i64) m.frame, (Value.int .i64) m.rights], .int .i64 p] w (Pure (Value.bool (over m p)) w) := by
  have h1 := Has.new (has_old w) #[(Value.int .i64) m.page, (Value.int .i64) m.size, (Value.int .i64) m.frame, (Value.int .i64) m.rights] 27
  have x1 := (Ext.refl w).alloc (.cells #[(Value.int .i64) m.page, (Value.int .i64) m.size, (Value.int .i64) m.frame, (Value.int .i64) m.rights] 27)
  have bl := below_of1 h1.right x1
  obtain ⟨c0, c1, c2, c3⟩ := h1.cells4
  obtain ⟨hm0, hm1⟩ := hm
  obtain ⟨hp0, hp1⟩ := hp
  clear h1 x1
  by_cases h0 : p < m.page
  · have hy := Lib.hid (show over m p = false by unfold over; simp; omega)
    go_enter Try.func35, Try.ntmps35
    go_wp2_with fail
    go_ret
    exact ⟨by rw [hy.out]; rfl, bl⟩
  · obtain ⟨s0, s1⟩ := span_le m.size
    go_enter Try.func35, Try.ntmps35
    go_wp2_with fail
    refine (spanOf_any _ _).mono ?_; rintro e w' ⟨rfl, rfl⟩
    generalize hs : span m.size = n at *
    have hS := Lib.hid hs
    clear hs
    go_wp2_with fail
    go_loop [1, 6] (fun x t => ∃ j : Nat, (j : Int) ≤ n ∧ (j : Int) ≤ p - m.page ∧ t = (Value.int .i64) j ∧ x = (Value.int .i64) (p - j)) (fun _ t => n.toNat - (intOf t).toNat)
    case atStart => exact ⟨0, by omega, by omega, rfl, by simp⟩
    case round =>
      obtain ⟨j, hj, hjp, rfl, rfl⟩ := hrel
      by_cases hjn : (j : Int) < n
      · by_cases he : p - j = m.page
        · have hy := Lib.hid (show over m p = true by unfold over; rw [hS.out]; simp; omega)
          have he' : (p - (j : Int) == m.page) = true := by simpa using he
          go_wp2_with fail
          go_ret
          exact ⟨by rw [hy.out]; rfl, bl⟩
        · have he' : (p - (j : Int) == m.page) = false := by simpa using he
          have he2 : (p - (j : Int) == -9223372036854775808) = false := by simp; omega
          go_wp2_with fail
          go_round
          case rel => exact ⟨j + 1, by omega, by omega, by go_num, by go_num⟩
          case measure => simp [intOf]; omega
      · have hy := Lib.hid (show over m p = false by unfold over; rw [hS.out]; simp; omega)
        go_wp2_with fail
        go_ret
        exact ⟨by rw [hy.out]; rfl, bl⟩

theorem both_any (a b : Mp) (w : World) (ha : i64 a.page) (hb : i64 b.page) :
    Calls Try.prog 34 #[.agg #[(Value.int .i64) a.page, (Value.int .i64) a.size, (Value.int .i64) a.frame, (Value.int .i64) a.rights], .agg #[(Value.int .i64) b.page, (Value.int .i64) b.size, (Value.int .i64) b.frame, (Value.int .i64) b.rights]] w (Pure (Value.bool (meet a b)) w) := by
  have h1 := Has.new (has_old w) #[(Value.int .i64) a.page, (Value.int .i64) a.size, (Value.int .i64) a.frame, (Value.int .i64) a.rights] 27
  have h2 := h1.new #[(Value.int .i64) b.page, (Value.int .i64) b.size, (Value.int .i64) b.frame, (Value.int .i64) b.rights] 27
  have x2 := ((Ext.refl w).alloc (.cells #[(Value.int .i64) a.page, (Value.int .i64) a.size, (Value.int .i64) a.frame, (Value.int .i64) a.rights] 27)).alloc (.cells #[(Value.int .i64) b.page, (Value.int .i64) b.size, (Value.int .i64) b.frame, (Value.int .i64) b.rights] 27)
  simp only [World.size_alloc] at h2
  go_enter Try.func34, Try.ntmps34
  go_wp2_with fail
  refine (refHas_any a b.page _ ha hb).mono ?_; rintro e w2 ⟨rfl, b2⟩
  have h3 := h2.below b2
  obtain ⟨c0, c1, c2, c3⟩ := h3.cells4
  obtain ⟨d0, d1, d2, d3⟩ := h3.right.cells4
  cases ho : over a b.page with
  | true =>
    have hy := Lib.hid (show meet a b = true by unfold meet; rw [ho]; rfl)
    go_wp2_with fail
    go_ret
    exact ⟨by rw [hy.out]; rfl, below_of1 h3.right.right (x2.below b2)⟩
  | false =>
    go_wp2_with fail
    refine (refHas_any b a.page _ hb ha).mono ?_; rintro e w3 ⟨rfl, b3⟩
    have h4 := h3.below b3
    have hy := Lib.hid (show meet a b = over b a.page by unfold meet; rw [ho]; rfl)
    go_wp2_with fail
    go_ret
    exact ⟨by rw [hy.out]; rfl, below_of1 h4.right.right ((x2.below b2).below b3)⟩

theorem andz_1 (r : Int) : (bits .and .i64 r 1 == 0) = !bitOf r 1 := by
  have h' : bits .and .i64 r 1 = (((r % 8).toNat &&& 1 : Nat) : Int) := and_mod8 r 1 (by omega)
  rw [h']
  unfold bitOf
  have e1 : r / 1 % 2 = r % 8 % 2 := by omega
  have e2 : r / 2 % 2 = r % 8 / 2 % 2 := by omega
  have e4 : r / 4 % 2 = r % 8 / 4 % 2 := by omega
  first | rw [e4] | rw [e1] | rw [e2]
  rcases mod8 r with h | h | h | h | h | h | h | h <;> rw [h] <;> rfl
theorem andz_2 (r : Int) : (bits .and .i64 r 2 == 0) = !bitOf r 2 := by
  have h' : bits .and .i64 r 2 = (((r % 8).toNat &&& 2 : Nat) : Int) := and_mod8 r 2 (by omega)
  rw [h']
  unfold bitOf
  have e1 : r / 1 % 2 = r % 8 % 2 := by omega
  have e2 : r / 2 % 2 = r % 8 / 2 % 2 := by omega
  have e4 : r / 4 % 2 = r % 8 / 4 % 2 := by omega
  first | rw [e4] | rw [e1] | rw [e2]
  rcases mod8 r with h | h | h | h | h | h | h | h <;> rw [h] <;> rfl
theorem andz_4 (r : Int) : (bits .and .i64 r 4 == 0) = !bitOf r 4 := by
  have h' : bits .and .i64 r 4 = (((r % 8).toNat &&& 4 : Nat) : Int) := and_mod8 r 4 (by omega)
  rw [h']
  unfold bitOf
  have e1 : r / 1 % 2 = r % 8 % 2 := by omega
  have e2 : r / 2 % 2 = r % 8 / 2 % 2 := by omega
  have e4 : r / 4 % 2 = r % 8 / 4 % 2 := by omega
  first | rw [e4] | rw [e1] | rw [e2]
  rcases mod8 r with h | h | h | h | h | h | h | h <;> rw [h] <;> rfl
theorem lets_any (r p k : Int) (u : Bool) (w : World) : Calls Try.prog 109 #[.int .i64 r, .agg #[(Value.int .i64) p, (Value.int .i64) k, Value.bool u]] w (Pure (Value.bool (may r ⟨p, k, u⟩)) w) := by
  have h1 := Has.new (has_old w) #[(Value.int .i64) p, (Value.int .i64) k, Value.bool u] 29
  have bl := below_of1 h1.right ((Ext.refl w).alloc (.cells #[(Value.int .i64) p, (Value.int .i64) k, Value.bool u] 29))
  clear h1
  have z1 := andz_1 r
  have z2 := andz_2 r
  have z4 := andz_4 r
  have z2' : (bits .and .i64 r 2 != 0) = bitOf r 2 := by
    unfold bne
    rw [z2]
    simp
  by_cases k1 : k = 1
  · subst k1
    clear z4 z2
    cases g1 : bitOf r 1 with
    | true =>
      rw [g1] at z1
      cases u with
      | true =>
        rw [show may r ⟨p, 1, true⟩ = (bitOf r 2) by unfold may; rw [g1]; simp]
        go_enter Try.func109, Try.ntmps109
        go_wp2
        go_ret
        exact ⟨rfl, bl⟩
      | false =>
        rw [show may r ⟨p, 1, false⟩ = (true) by unfold may; rw [g1]; simp]
        go_enter Try.func109, Try.ntmps109
        go_wp2
        go_ret
        exact ⟨rfl, bl⟩
    | false =>
      rw [g1] at z1
      rw [show may r ⟨p, 1, u⟩ = (false) by unfold may; rw [g1]; simp]
      go_enter Try.func109, Try.ntmps109
      go_wp2
      go_ret
      exact ⟨rfl, bl⟩
  by_cases k2 : k = 2
  · subst k2
    clear z1 z2
    cases g4 : bitOf r 4 with
    | true =>
      rw [g4] at z4
      cases u with
      | true =>
        rw [show may r ⟨p, 2, true⟩ = (bitOf r 2) by unfold may; rw [g4]; simp]
        go_enter Try.func109, Try.ntmps109
        go_wp2
        go_ret
        exact ⟨rfl, bl⟩
      | false =>
        rw [show may r ⟨p, 2, false⟩ = (true) by unfold may; rw [g4]; simp]
        go_enter Try.func109, Try.ntmps109
        go_wp2
        go_ret
        exact ⟨rfl, bl⟩
    | false =>
      rw [g4] at z4
      rw [show may r ⟨p, 2, u⟩ = (false) by unfold may; rw [g4]; simp]
      go_enter Try.func109, Try.ntmps109
      go_wp2
      go_ret
      exact ⟨rfl, bl⟩
  have g1 : (k == 1) = false := by simpa using k1
  have g2 : (k == 2) = false := by simpa using k2
  clear z1 z4 z2
  cases u with
  | true =>
    rw [show may r ⟨p, k, true⟩ = (bitOf r 2) by unfold may; simp [k1, k2]]
    go_enter Try.func109, Try.ntmps109
    go_wp2
    go_ret
    exact ⟨rfl, bl⟩
  | false =>
    rw [show may r ⟨p, k, false⟩ = (true) by unfold may; simp [k1, k2]]
    go_enter Try.func109, Try.ntmps109
    go_wp2
    go_ret
    exact ⟨rfl, bl⟩

theorem accessFault_any (p k : Int) (u : Bool) (w : World) : Calls Try.prog 45 #[.agg #[(Value.int .i64) p, (Value.int .i64) k, Value.bool u]] w (Pure ((Value.int .i64) (checkAccess ⟨p, k, u⟩)) w) := by
  have h1 := Has.new (has_old w) #[(Value.int .i64) p, (Value.int .i64) k, Value.bool u] 29
  have bl := below_of1 h1.right ((Ext.refl w).alloc (.cells #[(Value.int .i64) p, (Value.int .i64) k, Value.bool u] 29))
  clear h1
  by_cases k0 : k = 0
  · subst k0
    by_cases p0 : p < 0
    · skip
      have hy := Lib.hid (show checkAccess ⟨p, 0, u⟩ = 1 by unfold checkAccess; rw [if_neg (by simp), if_pos (by simp; omega)])
      go_enter Try.func45, Try.ntmps45
      go_wp2
      go_ret
      exact ⟨by rw [hy.out]; rfl, bl⟩
    by_cases p1 : 4096 ≤ p
    · skip
      have hy := Lib.hid (show checkAccess ⟨p, 0, u⟩ = 1 by unfold checkAccess; rw [if_neg (by simp), if_pos (by simp; omega)])
      go_enter Try.func45, Try.ntmps45
      go_wp2
      go_ret
      exact ⟨by rw [hy.out]; rfl, bl⟩
    have hy := Lib.hid (show checkAccess ⟨p, 0, u⟩ = 0 by unfold checkAccess; rw [if_neg (by simp), if_neg (by simp; omega)])
    go_enter Try.func45, Try.ntmps45
    go_wp2
    go_ret
    exact ⟨by rw [hy.out]; rfl, bl⟩
  by_cases k1 : k = 1
  · subst k1
    by_cases p0 : p < 0
    · skip
      have hy := Lib.hid (show checkAccess ⟨p, 1, u⟩ = 1 by unfold checkAccess; rw [if_neg (by simp), if_pos (by simp; omega)])
      go_enter Try.func45, Try.ntmps45
      go_wp2
      go_ret
      exact ⟨by rw [hy.out]; rfl, bl⟩
    by_cases p1 : 4096 ≤ p
    · skip
      have hy := Lib.hid (show checkAccess ⟨p, 1, u⟩ = 1 by unfold checkAccess; rw [if_neg (by simp), if_pos (by simp; omega)])
      go_enter Try.func45, Try.ntmps45
      go_wp2
      go_ret
      exact ⟨by rw [hy.out]; rfl, bl⟩
    have hy := Lib.hid (show checkAccess ⟨p, 1, u⟩ = 0 by unfold checkAccess; rw [if_neg (by simp), if_neg (by simp; omega)])
    go_enter Try.func45, Try.ntmps45
    go_wp2
    go_ret
    exact ⟨by rw [hy.out]; rfl, bl⟩
  by_cases k2 : k = 2
  · subst k2
    by_cases p0 : p < 0
    · skip
      have hy := Lib.hid (show checkAccess ⟨p, 2, u⟩ = 1 by unfold checkAccess; rw [if_neg (by simp), if_pos (by simp; omega)])
      go_enter Try.func45, Try.ntmps45
      go_wp2
      go_ret
      exact ⟨by rw [hy.out]; rfl, bl⟩
    by_cases p1 : 4096 ≤ p
    · skip
      have hy := Lib.hid (show checkAccess ⟨p, 2, u⟩ = 1 by unfold checkAccess; rw [if_neg (by simp), if_pos (by simp; omega)])
      go_enter Try.func45, Try.ntmps45
      go_wp2
      go_ret
      exact ⟨by rw [hy.out]; rfl, bl⟩
    have hy := Lib.hid (show checkAccess ⟨p, 2, u⟩ = 0 by unfold checkAccess; rw [if_neg (by simp), if_neg (by simp; omega)])
    go_enter Try.func45, Try.ntmps45
    go_wp2
    go_ret
    exact ⟨by rw [hy.out]; rfl, bl⟩
  have g0 : (k != 0) = true := by simpa using k0
  have g1 : (k != 1) = true := by simpa using k1
  have g2 : (k != 2) = true := by simpa using k2
  have hk := Lib.hid (show k < 0 ∨ 2 < k by omega)
  clear k0 k1 k2
  have hy := Lib.hid (show checkAccess ⟨p, k, u⟩ = 2 by unfold checkAccess; rw [if_pos (by simpa using hk.out)])
  go_enter Try.func45, Try.ntmps45
  go_wp2
  go_ret
  exact ⟨by rw [hy.out]; rfl, bl⟩

theorem wrap_sub_add (f p q : Int) : wrap64 (f + wrap64 (p - q)) = wrap64 (wrap64 (f + p) - q) := by
  unfold wrap64
  omega
theorem answerOf_any (m : Mp) (p k : Int) (u : Bool) (w : World) :
    Calls Try.prog 29 #[.agg #[(Value.int .i64) m.page, (Value.int .i64) m.size, (Value.int .i64) m.frame, (Value.int .i64) m.rights], .agg #[(Value.int .i64) p, (Value.int .i64) k, Value.bool u]] w (Pure (answer m ⟨p, k, u⟩).val w) := by
  have h1 := Has.new (has_old w) #[(Value.int .i64) m.page, (Value.int .i64) m.size, (Value.int .i64) m.frame, (Value.int .i64) m.rights] 27
  have h2 := h1.new #[(Value.int .i64) p, (Value.int .i64) k, Value.bool u] 29
  have h3 := h2.new #[(Value.int .i64) 0, (Value.int .i64) 0, (Value.int .i64) 0] 49
  have x3 := (((Ext.refl w).alloc (.cells #[(Value.int .i64) m.page, (Value.int .i64) m.size, (Value.int .i64) m.frame, (Value.int .i64) m.rights] 27)).alloc (.cells #[(Value.int .i64) p, (Value.int .i64) k, Value.bool u] 29)).alloc (.cells #[(Value.int .i64) 0, (Value.int .i64) 0, (Value.int .i64) 0] 49)
  simp only [World.size_alloc] at h3
  cases hm : may m.rights ⟨p, k, u⟩ with
  | true =>
    have hy := Lib.hid (show answer m ⟨p, k, u⟩ = ⟨0, wrap64 (m.frame + wrap64 (p - m.page)), m.rights⟩ by unfold answer; rw [hm, wrap_sub_add]; rfl)
    go_enter Try.func29, Try.ntmps29
    go_wp2_with fail
    refine (lets_any _ _ _ _ _).mono ?_; rintro e w1 ⟨rfl, b1⟩
    have h4 := h3.below b1
    have e1 := h4.lt
    obtain ⟨c0, c1, c2⟩ := h4.cells3
    obtain ⟨d0, d1, d2⟩ := h4.right.cells3
    obtain ⟨m0, m1, m2, m3⟩ := h4.right.right.cells4
    obtain ⟨f0, f1, f2⟩ := h4.frees3
    have h5 := ((h4.set 0 ((Value.int .i64) 0)).set 1 ((Value.int .i64) (wrap64 (m.frame + wrap64 (p - m.page))))).set 2 ((Value.int .i64) m.rights)
    go_wp2_with fail
    exact bodyPost_ret (v := .agg #[(Value.int .i64) 0, (Value.int .i64) (wrap64 (m.frame + wrap64 (p - m.page))), (Value.int .i64) m.rights]) (by simp [results, Try.results29, go_sem, c0, c1, c2]) rfl
      ⟨by rw [hy.out]; rfl, below_of1 h5.right.right.right (by (repeat (first | with_reducible assumption | with_reducible exact Ext.refl _ | with_reducible refine Ext.set ?_ _ _ | with_reducible refine Ext.alloc ?_ _ | with_reducible refine Ext.drew ?_ | with_reducible refine Ext.drewN ?_ _ | assumption | exact Ext.refl _ | refine Ext.alloc ?_ _ | refine Ext.set ?_ _ _ | refine Ext.drew ?_ | refine Ext.drewN ?_ _ | refine Ext.below ?_ (by assumption) | refine Ext.trans ?_ (by assumption))))⟩
  | false =>
    have hy := Lib.hid (show answer m ⟨p, k, u⟩ = ⟨2, 0, 0⟩ by unfold answer; rw [hm]; rfl)
    go_enter Try.func29, Try.ntmps29
    go_wp2_with fail
    refine (lets_any _ _ _ _ _).mono ?_; rintro e w1 ⟨rfl, b1⟩
    have h4 := h3.below b1
    have e1 := h4.lt
    obtain ⟨c0, c1, c2⟩ := h4.cells3
    obtain ⟨f0, f1, f2⟩ := h4.frees3
    have h5 := ((h4.set 0 ((Value.int .i64) 2)).set 1 ((Value.int .i64) 0)).set 2 ((Value.int .i64) 0)
    go_wp2_with fail
    exact bodyPost_ret (v := .agg #[(Value.int .i64) 2, (Value.int .i64) 0, (Value.int .i64) 0]) (by simp [results, Try.results29, go_sem, c0, c1, c2]) rfl
      ⟨by rw [hy.out]; rfl, below_of1 h5.right.right.right (by (repeat (first | with_reducible assumption | with_reducible exact Ext.refl _ | with_reducible refine Ext.set ?_ _ _ | with_reducible refine Ext.alloc ?_ _ | with_reducible refine Ext.drew ?_ | with_reducible refine Ext.drewN ?_ _ | assumption | exact Ext.refl _ | refine Ext.alloc ?_ _ | refine Ext.set ?_ _ _ | refine Ext.drew ?_ | refine Ext.drewN ?_ _ | refine Ext.below ?_ (by assumption) | refine Ext.trans ?_ (by assumption))))⟩
end Go.Proofs.Ytndhgomikpokpaa
