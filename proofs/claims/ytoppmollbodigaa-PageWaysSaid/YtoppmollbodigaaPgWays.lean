/- The law PageWays: the plain law, and the walk. -/
import Derived.Test.YtoppmollbodigaaPgBegun
namespace Go.Proofs.Ytoppmollbodigaa
open Go.RowKit
set_option maxRecDepth 100000

/-- As far as level j the two pages' ways are one. -/
def sameB (p q : Int) (j : Nat) : Bool := (List.range j).all fun (i : Nat) => index p i == index q i
theorem sameB_succ (p q : Int) (j : Nat) : sameB p q (j + 1) = (sameB p q j && index p j == index q j) := by
  unfold sameB
  rw [List.range_succ, List.all_append]
  simp
theorem has_iff {p : Int} : hasB p = true ↔ 0 ≤ p ∧ p < 4096 := by unfold hasB; simp
theorem same_ways {p q : Int} (hp : hasB p = true) (hq : hasB q = true) : sameB p q 4 = (p == q) := by
  obtain ⟨p0, p1⟩ := has_iff.1 hp
  obtain ⟨q0, q1⟩ := has_iff.1 hq
  have e : ∀ x : Int, 0 ≤ x → x < 4096 → index x 0 = x % 8 ∧ index x 1 = x / 8 % 8 ∧ index x 2 = x / 64 % 8 ∧ index x 3 = x / 512 % 8 := by
    intro x h0 h1
    refine ⟨?_, ?_, ?_, ?_⟩ <;> unfold index <;> rw [if_pos ⟨h0, h1, by omega, by omega⟩] <;> simp [pow8]
  obtain ⟨a0, a1, a2, a3⟩ := e p p0 p1
  obtain ⟨b0, b1, b2, b3⟩ := e q q0 q1
  have hs : sameB p q 4 = (index p 0 == index q 0 && (index p 1 == index q 1 && (index p 2 == index q 2 && index p 3 == index q 3))) := by
    show ((index p 0 == index q 0) && ((index p 1 == index q 1) && ((index p 2 == index q 2) && ((index p 3 == index q 3) && true)))) = _
    rw [Bool.and_true]
  rw [hs, a0, a1, a2, a3, b0, b1, b2, b3]
  by_cases h : p = q
  · subst h; simp
  · have hf : (p == q) = false := by simpa using h
    rw [hf]
    simp
    omega
theorem ways_of {m : Mp} {p : Int} (hc : check m = 0) (ho : over m p = true) : hasB p = true ∧ ∀ l : Nat, m.size ≤ l → l < 4 → index p l = index m.page l := by
  obtain ⟨hs, p0, p1, _, _, _, _, ha, _⟩ := check_zero hc
  obtain ⟨o0, o1⟩ := over_iff.1 ho
  have e : ∀ x : Int, 0 ≤ x → x < 4096 → ∀ l : Nat, l < 4 → index x l = x / pow8 l % 8 := by
    intro x h0 h1 l hl
    unfold index
    rw [if_pos ⟨h0, h1, by omega, by omega⟩]
    simp
  have q0 : pow8 0 = 1 := rfl
  have q1 : pow8 1 = 8 := rfl
  have q2 : pow8 2 = 64 := rfl
  have q3 : pow8 3 = 512 := rfl
  rcases hs with hs | hs | hs
  · rw [hs] at ha o1
    simp only [span, if_true] at ha o1
    obtain rfl : p = m.page := by omega
    exact ⟨has_iff.2 ⟨by omega, by omega⟩, fun _ _ _ => rfl⟩
  · rw [hs] at ha o1
    have s1 : span 1 = 8 := rfl
    rw [s1] at ha o1
    refine ⟨has_iff.2 ⟨by omega, by omega⟩, fun l h1 h4 => ?_⟩
    rw [hs] at h1
    rw [e p (by omega) (by omega) l h4, e m.page p0 p1 l h4]
    match l, h1, h4 with
    | 1, _, _ => rw [q1]; omega
    | 2, _, _ => rw [q2]; omega
    | 3, _, _ => rw [q3]; omega
  · rw [hs] at ha o1
    have s2 : span 2 = 64 := rfl
    rw [s2] at ha o1
    refine ⟨has_iff.2 ⟨by omega, by omega⟩, fun l h1 h4 => ?_⟩
    rw [hs] at h1
    rw [e p (by omega) (by omega) l h4, e m.page p0 p1 l h4]
    match l, h1, h4 with
    | 2, _, _ => rw [q2]; omega
    | 3, _, _ => rw [q3]; omega

set_option maxHeartbeats 4000000 in
theorem pageWays_walk (p q : Int) (m : Mp) (w : World) (op : i64 p) (_ : i64 q) (om : m.ok) :
    Calls Try.prog 4 #[vi p, vi q, .agg #[vi m.page, vi m.size, vi m.frame, vi m.rights]] w (Pure (vb true) w) := by
  have h1 := Has.new (has_old w) #[vi m.page, vi m.size, vi m.frame, vi m.rights] 28
  have x1 := (Ext.refl w).alloc (.cells #[vi m.page, vi m.size, vi m.frame, vi m.rights] 28)
  obtain ⟨om1, om2, _, _⟩ := om
  go_enter Try.func4, Try.ntmps4
  go_wp2_with fail
  refine (pageBegun_any _).mono ?_; rintro e w2 ⟨rfl, b2⟩
  have h2 := h1.below b2
  obtain ⟨c0, c1, c2, c3⟩ := h2.cells4
  go_wp2_with fail
  go_loop [7, 8] (fun s t => ∃ j : Nat, j ≤ 4 ∧ t = vi j ∧ s = vb (sameB p q j)) (fun _ t => 4 - (intOf t).toNat)
  case atStart => exact ⟨0, by omega, rfl, rfl⟩
  case round =>
    obtain ⟨j, hj, rfl, rfl⟩ := hrel
    by_cases hj4 : j < 4
    · have hs := Lib.hid (sameB_succ p q j)
      cases hb : sameB p q j with
      | true =>
        have hb' := Lib.hid hb
        go_wp2_with (first | (go_at_call 21; refine (index_any _ _ _).mono ?_; rintro e w' ⟨rfl, rfl⟩) | (go_at_call 22; refine (has_any _ _).mono ?_; rintro e w' ⟨rfl, rfl⟩))
        go_round
        case rel => exact ⟨j + 1, by omega, by go_num, by rw [hs.out, hb'.out, Bool.true_and]⟩
        case measure => simp [intOf]; omega
      | false =>
        have hb' := Lib.hid hb
        go_wp2_with (first | (go_at_call 21; refine (index_any _ _ _).mono ?_; rintro e w' ⟨rfl, rfl⟩) | (go_at_call 22; refine (has_any _ _).mono ?_; rintro e w' ⟨rfl, rfl⟩))
        go_round
        case rel => exact ⟨j + 1, by omega, by go_num, by rw [hs.out, hb'.out, Bool.false_and]⟩
        case measure => simp [intOf]; omega
    · obtain rfl : j = 4 := by omega
      have hsw : hasB p = true → hasB q = true → sameB p q 4 = (p == q) := same_ways
      generalize sameB p q 4 = s at *
      have HS := Lib.hid hsw
      clear hsw
      cases hp : hasB p with
      | true =>
        have hP := Lib.hid hp
        cases hq : hasB q with
        | true =>
          obtain rfl := HS.out hp hq
          go_wp2_with (first | (go_at_call 21; refine (index_any _ _ _).mono ?_; rintro e w' ⟨rfl, rfl⟩) | (go_at_call 22; refine (has_any _ _).mono ?_; rintro e w' ⟨rfl, rfl⟩))
          refine (check_any m _).mono ?_; rintro e w3 ⟨rfl, b3⟩
          have h3 := h2.below b3
          clear c0 c1 c2 c3
          obtain ⟨c0, c1, c2, c3⟩ := h3.cells4
          by_cases hc : check m = 0
          · go_wp2_with fail
            refine (over_page m p _ om1 op).mono ?_; rintro e w4 ⟨rfl, b4⟩
            have h4 := h3.below b4
            clear c0 c1 c2 c3
            obtain ⟨c0, c1, c2, c3⟩ := h4.cells4
            cases ho : over m p with
            | true =>
              obtain ⟨hs, hz⟩ := check_zero hc
              obtain ⟨hpp, hw⟩ := ways_of hc ho
              obtain ⟨s, hS⟩ : ∃ s : Nat, m.size = s := ⟨m.size.toNat, by omega⟩
              have hS3 : s ≤ 2 := by omega
              have hW := Lib.hid hw
              have hC := Lib.hid hc
              have hS' := Lib.hid hS
              clear hz hw hc hs ho
              clear hS
              go_wp2_with fail
              go_loopw [9] (fun t wz => ∃ l : Nat, s ≤ l ∧ l ≤ 4 ∧ t = vi l ∧ Has wz (blk w.heap.size #[vi m.page, vi m.size, vi m.frame, vi m.rights] 28 * old w w.heap.size) ∧ Ext w wz) (fun t _ => 4 - (intOf t).toNat)
              case atStart => exact ⟨s, by omega, by omega, by rw [hS'.out], h4, by (repeat (first | assumption | exact Ext.refl _ | refine Ext.alloc ?_ _ | refine Ext.set ?_ _ _ | refine Ext.drew ?_ | refine Ext.drewN ?_ _ | refine Ext.below ?_ (by assumption) | refine Ext.trans ?_ (by assumption)))⟩
              case round =>
                obtain ⟨l, hl1, hl2, rfl, hz, hxz⟩ := hrel
                by_cases hl4 : l < 4
                · have hi := hW.out l (by rw [hS'.out]; omega) hl4
                  obtain ⟨d0, d1, d2, d3⟩ := hz.cells4
                  have v0 := via_cell d0
                  go_wp2
                  refine wp_region_via (by kernel_rfl) (by kernel_rfl) ?_
                  repeat (first | go_big_quiet_step ((go_at_call 21; exact Same.via (index_any _ _ _))) | quiet_step ((go_at_call 21; exact Same.via (index_any _ _ _))))
                  refine wpQuiet_nil ?_
                  intro _ hw'
                  obtain ⟨uq, hw''⟩ := hw'
                  subst hw''
                  go_wp2
                  go_roundw
                  case rel => exact ⟨l + 1, by omega, by omega, by go_num, hz.via _, hxz.below (via_below _ _)⟩
                  case measure => simp [intOf]; omega
                · go_wp2_with (first | (go_at_call 21; refine (index_any _ _ _).mono ?_; rintro e w' ⟨rfl, rfl⟩) | (go_at_call 22; refine (has_any _ _).mono ?_; rintro e w' ⟨rfl, rfl⟩))
                  go_ret
                  exact ⟨rfl, below_of1 hz.right hxz⟩
            | false =>
              go_wp2_with fail
              go_ret
              exact ⟨rfl, below_of1 h4.right (by (repeat (first | assumption | exact Ext.refl _ | refine Ext.alloc ?_ _ | refine Ext.set ?_ _ _ | refine Ext.drew ?_ | refine Ext.drewN ?_ _ | refine Ext.below ?_ (by assumption) | refine Ext.trans ?_ (by assumption))))⟩
          · have hc' : (check m == 0) = false := by simpa using hc
            go_wp2_with fail
            go_ret
            exact ⟨rfl, below_of1 h3.right (by (repeat (first | assumption | exact Ext.refl _ | refine Ext.alloc ?_ _ | refine Ext.set ?_ _ _ | refine Ext.drew ?_ | refine Ext.drewN ?_ _ | refine Ext.below ?_ (by assumption) | refine Ext.trans ?_ (by assumption))))⟩
        | false =>
          go_wp2_with (first | (go_at_call 21; refine (index_any _ _ _).mono ?_; rintro e w' ⟨rfl, rfl⟩) | (go_at_call 22; refine (has_any _ _).mono ?_; rintro e w' ⟨rfl, rfl⟩))
          refine (check_any m _).mono ?_; rintro e w3 ⟨rfl, b3⟩
          have h3 := h2.below b3
          clear c0 c1 c2 c3
          obtain ⟨c0, c1, c2, c3⟩ := h3.cells4
          by_cases hc : check m = 0
          · go_wp2_with fail
            refine (over_page m p _ om1 op).mono ?_; rintro e w4 ⟨rfl, b4⟩
            have h4 := h3.below b4
            clear c0 c1 c2 c3
            obtain ⟨c0, c1, c2, c3⟩ := h4.cells4
            cases ho : over m p with
            | true =>
              obtain ⟨hs, hz⟩ := check_zero hc
              obtain ⟨hpp, hw⟩ := ways_of hc ho
              obtain ⟨s, hS⟩ : ∃ s : Nat, m.size = s := ⟨m.size.toNat, by omega⟩
              have hS3 : s ≤ 2 := by omega
              have hW := Lib.hid hw
              have hC := Lib.hid hc
              have hS' := Lib.hid hS
              clear hz hw hc hs ho
              clear hS
              go_wp2_with fail
              go_loopw [9] (fun t wz => ∃ l : Nat, s ≤ l ∧ l ≤ 4 ∧ t = vi l ∧ Has wz (blk w.heap.size #[vi m.page, vi m.size, vi m.frame, vi m.rights] 28 * old w w.heap.size) ∧ Ext w wz) (fun t _ => 4 - (intOf t).toNat)
              case atStart => exact ⟨s, by omega, by omega, by rw [hS'.out], h4, by (repeat (first | assumption | exact Ext.refl _ | refine Ext.alloc ?_ _ | refine Ext.set ?_ _ _ | refine Ext.drew ?_ | refine Ext.drewN ?_ _ | refine Ext.below ?_ (by assumption) | refine Ext.trans ?_ (by assumption)))⟩
              case round =>
                obtain ⟨l, hl1, hl2, rfl, hz, hxz⟩ := hrel
                by_cases hl4 : l < 4
                · have hi := hW.out l (by rw [hS'.out]; omega) hl4
                  obtain ⟨d0, d1, d2, d3⟩ := hz.cells4
                  have v0 := via_cell d0
                  go_wp2
                  refine wp_region_via (by kernel_rfl) (by kernel_rfl) ?_
                  repeat (first | go_big_quiet_step ((go_at_call 21; exact Same.via (index_any _ _ _))) | quiet_step ((go_at_call 21; exact Same.via (index_any _ _ _))))
                  refine wpQuiet_nil ?_
                  intro _ hw'
                  obtain ⟨uq, hw''⟩ := hw'
                  subst hw''
                  go_wp2
                  go_roundw
                  case rel => exact ⟨l + 1, by omega, by omega, by go_num, hz.via _, hxz.below (via_below _ _)⟩
                  case measure => simp [intOf]; omega
                · go_wp2_with (first | (go_at_call 21; refine (index_any _ _ _).mono ?_; rintro e w' ⟨rfl, rfl⟩) | (go_at_call 22; refine (has_any _ _).mono ?_; rintro e w' ⟨rfl, rfl⟩))
                  go_ret
                  exact ⟨rfl, below_of1 hz.right hxz⟩
            | false =>
              go_wp2_with fail
              go_ret
              exact ⟨rfl, below_of1 h4.right (by (repeat (first | assumption | exact Ext.refl _ | refine Ext.alloc ?_ _ | refine Ext.set ?_ _ _ | refine Ext.drew ?_ | refine Ext.drewN ?_ _ | refine Ext.below ?_ (by assumption) | refine Ext.trans ?_ (by assumption))))⟩
          · have hc' : (check m == 0) = false := by simpa using hc
            go_wp2_with fail
            go_ret
            exact ⟨rfl, below_of1 h3.right (by (repeat (first | assumption | exact Ext.refl _ | refine Ext.alloc ?_ _ | refine Ext.set ?_ _ _ | refine Ext.drew ?_ | refine Ext.drewN ?_ _ | refine Ext.below ?_ (by assumption) | refine Ext.trans ?_ (by assumption))))⟩
      | false =>
        go_wp2_with (first | (go_at_call 21; refine (index_any _ _ _).mono ?_; rintro e w' ⟨rfl, rfl⟩) | (go_at_call 22; refine (has_any _ _).mono ?_; rintro e w' ⟨rfl, rfl⟩))
        refine (check_any m _).mono ?_; rintro e w3 ⟨rfl, b3⟩
        have h3 := h2.below b3
        clear c0 c1 c2 c3
        obtain ⟨c0, c1, c2, c3⟩ := h3.cells4
        by_cases hc : check m = 0
        · go_wp2_with fail
          refine (over_page m p _ om1 op).mono ?_; rintro e w4 ⟨rfl, b4⟩
          have h4 := h3.below b4
          clear c0 c1 c2 c3
          obtain ⟨c0, c1, c2, c3⟩ := h4.cells4
          cases ho : over m p with
          | true =>
            obtain ⟨hs, hz⟩ := check_zero hc
            obtain ⟨hpp, hw⟩ := ways_of hc ho
            exact absurd hpp (by rw [hp]; decide)
          | false =>
            go_wp2_with fail
            go_ret
            exact ⟨rfl, below_of1 h4.right (by (repeat (first | assumption | exact Ext.refl _ | refine Ext.alloc ?_ _ | refine Ext.set ?_ _ _ | refine Ext.drew ?_ | refine Ext.drewN ?_ _ | refine Ext.below ?_ (by assumption) | refine Ext.trans ?_ (by assumption))))⟩
        · have hc' : (check m == 0) = false := by simpa using hc
          go_wp2_with fail
          go_ret
          exact ⟨rfl, below_of1 h3.right (by (repeat (first | assumption | exact Ext.refl _ | refine Ext.alloc ?_ _ | refine Ext.set ?_ _ _ | refine Ext.drew ?_ | refine Ext.drewN ?_ _ | refine Ext.below ?_ (by assumption) | refine Ext.trans ?_ (by assumption))))⟩

end Go.Proofs.Ytoppmollbodigaa
