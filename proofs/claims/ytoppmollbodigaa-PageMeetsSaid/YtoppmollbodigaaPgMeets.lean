/- The law PageMeets: the plain law, and the walk. -/
import Derived.Test.YtoppmollbodigaaPgBegun
namespace Go.Proofs.Ytoppmollbodigaa
open Go.RowKit
set_option maxRecDepth 100000

/-- How many of the first j pages from s on n lies over. -/
def cnt (n : Mp) (s : Int) : Nat → Nat
  | 0 => 0
  | j + 1 => cnt n s j + (if over n (s + j) then 1 else 0)
theorem cnt_le (n : Mp) (s : Int) : ∀ j, cnt n s j ≤ j
  | 0 => Nat.le_refl _
  | j + 1 => by have := cnt_le n s j; unfold cnt; split <;> omega
/-- As numbers: the part of [s, s + j) that lies in [n.page, n.page + span). -/
theorem cnt_eq (n : Mp) (s : Int) : ∀ j : Nat, (cnt n s j : Int) = max 0 (min (s + j) (n.page + span n.size) - max s n.page)
  | 0 => by have := span_le n.size; unfold cnt; omega
  | j + 1 => by
    have ih := cnt_eq n s j
    have := span_le n.size
    unfold cnt
    by_cases h : over n (s + j) = true
    · have h' := over_iff.1 h
      rw [if_pos h]
      omega
    · have h' : ¬ (n.page ≤ s + j ∧ s + j < n.page + span n.size) := fun h2 => h (over_iff.2 h2)
      rw [if_neg h]
      omega
theorem meet_comm (a b : Mp) : meet a b = meet b a := by unfold meet; exact Bool.or_comm _ _
theorem meets_plain {m n : Mp} (hm : check m = 0) (hn : check n = 0) : meet m n = decide (0 < (cnt n m.page (span m.size).toNat : Int)) ∧
    ((cnt n m.page (span m.size).toNat : Int) = 0 ∨ (cnt n m.page (span m.size).toNat : Int) = min (span m.size) (span n.size)) := by
  obtain ⟨ms, m0, m1, _, _, _, _, ma, _⟩ := check_zero hm
  obtain ⟨ns, n0, n1, _, _, _, _, na, _⟩ := check_zero hn
  rw [cnt_eq]
  have hmeet : meet m n = decide ((m.page ≤ n.page ∧ n.page < m.page + span m.size) ∨ (n.page ≤ m.page ∧ m.page < n.page + span n.size)) := by
    unfold meet
    rw [Bool.eq_iff_iff]
    simp only [Bool.or_eq_true, decide_eq_true_eq, over_iff]
  rw [hmeet]
  have s0 : span 0 = 1 := rfl
  have s1 : span 1 = 8 := rfl
  have s2 : span 2 = 64 := rfl
  rcases ms with h | h | h <;> rcases ns with g | g | g <;> rw [h, g] <;> rw [h] at ma <;> rw [g] at na <;> simp only [s0, s1, s2] at * <;>
    (refine ⟨?_, by omega⟩; rw [Bool.eq_iff_iff]; simp only [decide_eq_true_eq]; omega)

set_option maxHeartbeats 1600000 in
theorem pageMeets_walk (m n : Mp) (w : World) (om : m.ok) (on : n.ok) :
    Calls Try.prog 6 #[.agg #[vi m.page, vi m.size, vi m.frame, vi m.rights], .agg #[vi n.page, vi n.size, vi n.frame, vi n.rights]] w (Pure (vb true) w) := by
  have om0 := om.1
  have on0 := on.1
  have h1 := (Has.new (has_old w) #[vi m.page, vi m.size, vi m.frame, vi m.rights] 28).new #[vi n.page, vi n.size, vi n.frame, vi n.rights] 28
  have x1 := ((Ext.refl w).alloc (.cells #[vi m.page, vi m.size, vi m.frame, vi m.rights] 28)).alloc (.cells #[vi n.page, vi n.size, vi n.frame, vi n.rights] 28)
  simp only [World.size_alloc] at h1
  go_enter Try.func6, Try.ntmps6
  go_wp2_with fail
  refine (pageBegun_any _).mono ?_; rintro e w2 ⟨rfl, b2⟩
  have h2 := (h1.below b2).p2
  have x2 := x1.below b2
  clear h1 x1 b2
  obtain ⟨c0, c1, c2, c3⟩ := h2.cells4
  obtain ⟨d0, d1, d2, d3⟩ := h2.right.cells4
  go_wp2_with fail
  refine (check_any m _).mono ?_; rintro e w3 ⟨rfl, b3⟩
  have h3 := h2.below b3
  have x3 := x2.below b3
  clear h2 x2 b3 c0 c1 c2 c3 d0 d1 d2 d3
  obtain ⟨c0, c1, c2, c3⟩ := h3.cells4
  obtain ⟨d0, d1, d2, d3⟩ := h3.right.cells4
  by_cases hm : check m = 0
  · go_wp2_with fail
    refine (check_any n _).mono ?_; rintro e w4 ⟨rfl, b4⟩
    have h4 := h3.below b4
    have x4 := x3.below b4
    clear h3 x3 b4 c0 c1 c2 c3 d0 d1 d2 d3
    obtain ⟨c0, c1, c2, c3⟩ := h4.cells4
    obtain ⟨d0, d1, d2, d3⟩ := h4.right.cells4
    by_cases hn : check n = 0
    · obtain ⟨hM, hC⟩ := meets_plain hm hn
      obtain ⟨_, m0, m1, _, _, _, _, _, _⟩ := check_zero hm
      obtain ⟨s0, s64⟩ := span_le m.size
      have HM := Lib.hid hM
      have HC := Lib.hid hC
      clear hM hC
      have v1 := via_cell c1
      have v5 := via_cell d1
      go_wp2
      clear hm hn
      refine wp_region_via (by kernel_rfl) (by kernel_rfl) ?_
      repeat (first | go_big_quiet_step ((go_at_call 26; exact Same.via (span_any _ _))) | quiet_step ((go_at_call 26; exact Same.via (span_any _ _))))
      refine wpQuiet_nil ?_
      intro _ hw'
      obtain ⟨uq, hw''⟩ := hw'
      subst hw''
      have h5 := h4.via uq
      have x5 := x4.below (via_below w4 uq)
      generalize via w4 uq = w5 at *
      clear h4 x4 c0 c1 c2 c3 d0 d1 d2 d3
      obtain ⟨c0, c1, c2, c3⟩ := h5.cells4
      go_wp2
      go_loopw [5, 8] (fun b t wz => ∃ j : Nat, (j : Int) ≤ span m.size ∧ t = vi (m.page + j) ∧ b = vi (cnt n m.page j) ∧ Has wz (blk w.heap.size #[vi m.page, vi m.size, vi m.frame, vi m.rights] 28 * (blk (w.heap.size + 1) #[vi n.page, vi n.size, vi n.frame, vi n.rights] 28 * old w w.heap.size)) ∧ Ext w wz)
        (fun _ t _ => (m.page + span m.size - intOf t).toNat)
      case atStart => exact ⟨0, by omega, by simp, rfl, h5, x5⟩
      case round =>
        obtain ⟨j, hj, rfl, rfl, hz, hxz⟩ := hrel
        clear h5 x5 c0 c1 c2 c3
        obtain ⟨c0, c1, c2, c3⟩ := hz.cells4
        obtain ⟨d0, d1, d2, d3⟩ := hz.right.cells4
        have hcl := cnt_le n m.page j
        by_cases hjs : (j : Int) < span m.size
        · go_wp2_with fail
          refine (over_page n (m.page + j) _ on0 ⟨by omega, by omega⟩).mono ?_; rintro e w6 ⟨rfl, b6⟩
          have h6 := hz.below b6
          have x6 := hxz.below b6
          cases ho : over n (m.page + j) with
          | true =>
            have hE := Lib.hid (show cnt n m.page (j + 1) = cnt n m.page j + 1 by show cnt n m.page j + (if over n (m.page + j) then 1 else 0) = _; rw [ho]; rfl)
            go_wp2
            go_roundw
            case rel => exact ⟨j + 1, by omega, by go_num, by rw [hE.out]; go_num, h6, x6⟩
            case measure => simp [intOf]; omega
          | false =>
            have hE := Lib.hid (show cnt n m.page (j + 1) = cnt n m.page j by show cnt n m.page j + (if over n (m.page + j) then 1 else 0) = _; rw [ho]; rfl)
            go_wp2
            go_roundw
            case rel => exact ⟨j + 1, by omega, by go_num, by rw [hE.out], h6, x6⟩
            case measure => simp [intOf]; omega
        · have hjj : (span m.size).toNat = j := by omega
          have hM := HM.out
          have hC := HC.out
          rw [hjj] at hM hC
          clear HM HC
          generalize cnt n m.page j = c at *
          have v0 := via_cell c0
          have v1 := via_cell c1
          have v2 := via_cell c2
          have v3 := via_cell c3
          have u0 := via_cell d0
          have u1 := via_cell d1
          have u2 := via_cell d2
          have u3 := via_cell d3
          have hc2 := meet_comm n m
          by_cases hc0 : c = 0
          · subst hc0
            have hmm : meet m n = false := by rw [hM]; rfl
            rw [hmm] at hc2
            clear hM hC
            go_wp2
            refine wp_region_via (by kernel_rfl) (by kernel_rfl) ?_
            repeat (first | go_big_quiet_step ((go_at_call 28; exact Pure.via (meet_any _ _ _ (by assumption) (by assumption)))) | quiet_step ((go_at_call 28; exact Pure.via (meet_any _ _ _ (by assumption) (by assumption)))))
            refine wpQuiet_nil ?_
            intro _ hw'
            obtain ⟨uq, hw''⟩ := hw'
            subst hw''
            go_wp2
            go_ret
            exact ⟨rfl, below_of1 (hz.via _).right.right (hxz.below (via_below _ _))⟩
          · have hmm : meet m n = true := by rw [hM]; simp; omega
            have hcm : (c : Int) = min (span m.size) (span n.size) := hC.resolve_left (by omega)
            rw [hmm] at hc2
            have hpos : (0 : Int) < c := by omega
            have hpos2 : 0 < c := by omega
            have hd : decide (0 < c) = true := by simpa using hpos2
            have hd2 : decide ((0 : Int) < c) = true := by simpa using hpos2
            have hne2 : (c == 0) = false := by simpa using hc0
            have hne : ((c : Int) == 0) = false := by simp; omega
            have HCM := Lib.hid hcm
            clear hM hC hcm
            by_cases hab : span n.size < span m.size
            · have hq := Lib.hid (show ((c : Int) == span n.size) = true by have := HCM.out; simp; omega)
              go_wp2
              refine wp_region_via (by kernel_rfl) (by kernel_rfl) ?_
              repeat (first | go_big_quiet_step ((go_at_call 28; exact Pure.via (meet_any _ _ _ (by assumption) (by assumption)))) | quiet_step ((go_at_call 28; exact Pure.via (meet_any _ _ _ (by assumption) (by assumption)))))
              refine wpQuiet_nil ?_
              intro _ hw'
              obtain ⟨uq, hw''⟩ := hw'
              subst hw''
              go_wp2
              go_ret
              exact ⟨congrArg (fun b => Ending.returned (vb b)) hq.out, below_of1 (hz.via _).right.right (hxz.below (via_below _ _))⟩
            · have hq := Lib.hid (show ((c : Int) == span m.size) = true by have := HCM.out; simp; omega)
              go_wp2
              refine wp_region_via (by kernel_rfl) (by kernel_rfl) ?_
              repeat (first | go_big_quiet_step ((go_at_call 28; exact Pure.via (meet_any _ _ _ (by assumption) (by assumption)))) | quiet_step ((go_at_call 28; exact Pure.via (meet_any _ _ _ (by assumption) (by assumption)))))
              refine wpQuiet_nil ?_
              intro _ hw'
              obtain ⟨uq, hw''⟩ := hw'
              subst hw''
              go_wp2
              go_ret
              exact ⟨congrArg (fun b => Ending.returned (vb b)) hq.out, below_of1 (hz.via _).right.right (hxz.below (via_below _ _))⟩
    · have hn' : (check n == 0) = false := by simpa using hn
      go_wp2_with fail
      go_ret
      exact ⟨rfl, below_of1 h4.right.right x4⟩
  · have hm' : (check m == 0) = false := by simpa using hm
    go_wp2_with fail
    go_ret
    exact ⟨rfl, below_of1 h3.right.right x3⟩
end Go.Proofs.Ytoppmollbodigaa
