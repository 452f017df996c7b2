/- The contract of entry's check: it returns, or gives up with a code. -/
import Derived.Test.YtacnjjjdkpbeaaaEntry
import Derived.Deep.RegionWith
import Derived.StillTailTactics
namespace Go.Proofs.Ytacnjjjdkpbeaaa
open Go.RowKit
set_option maxRecDepth 100000

/-- How a look ends that tells a code. -/
def chkEnd (c : Int) : Ending := if c = 0 then .returned (.tuple #[]) else .panicked [{ v := .iface 189 ((Value.int .i64) c), recovered := false }]
def EndC (c : Int) (w : World) (e : Ending) (w' : World) : Prop := e = chkEnd c ∧ Below w.heap.size w w'
set_option maxHeartbeats 4000000 in
theorem check_look (th leaf u d : Bool) (r f l : Int) (w : World) : Calls Try.prog 128 #[.agg #[Value.bool th, Value.bool leaf, (Value.int .i64) r, Value.bool u, Value.bool d, (Value.int .i64) f], (Value.int .i64) l] w (EndC (entFault ⟨th, leaf, r, u, d, f⟩ l) w) := by
  have h1 := Has.new (has_old w) #[Value.bool th, Value.bool leaf, (Value.int .i64) r, Value.bool u, Value.bool d, (Value.int .i64) f] 59
  have bl := below_of1 h1.right ((Ext.refl w).alloc (.cells #[Value.bool th, Value.bool leaf, (Value.int .i64) r, Value.bool u, Value.bool d, (Value.int .i64) f] 59))
  clear h1
  by_cases l0 : l < 0
  · have hy := Lib.hid (show chkEnd (entFault ⟨th, leaf, r, u, d, f⟩ l) = .panicked [{ v := .iface 189 ((Value.int .i64) 1), recovered := false }] by unfold entFault; rw [if_pos (.inl l0)]; rfl)
    go_enter Try.func128, Try.ntmps128
    go_wp2_with (go_at_call 131; first | ((with_reducible refine (fail_no _ _).mono ?_); rintro e w' ⟨rfl, rfl⟩) | ((with_reducible refine (fail_yes _ _).mono ?_); rintro e w' ⟨rfl, rfl⟩))
    exact ⟨rfl, by rw [hy.out], bl⟩
  by_cases l4 : 4 ≤ l
  · have hy := Lib.hid (show chkEnd (entFault ⟨th, leaf, r, u, d, f⟩ l) = .panicked [{ v := .iface 189 ((Value.int .i64) 1), recovered := false }] by unfold entFault; rw [if_pos (.inr l4)]; rfl)
    go_enter Try.func128, Try.ntmps128
    go_wp2_with (go_at_call 131; first | ((with_reducible refine (fail_no _ _).mono ?_); rintro e w' ⟨rfl, rfl⟩) | ((with_reducible refine (fail_yes _ _).mono ?_); rintro e w' ⟨rfl, rfl⟩))
    exact ⟨rfl, by rw [hy.out], bl⟩
  have hl : ¬ (l < 0 ∨ 4 ≤ l) := by omega
  cases th with
  | false =>
    by_cases hz : leaf = false ∧ r = 0 ∧ u = false ∧ d = false ∧ f = 0
    · obtain ⟨rfl, rfl, rfl, rfl, rfl⟩ := hz
      have hy := Lib.hid (show chkEnd (entFault ⟨false, false, 0, false, false, 0⟩ l) = .returned (.tuple #[]) by unfold entFault; rw [if_neg hl]; rfl)
      clear hl
      go_enter Try.func128, Try.ntmps128
      go_wp2_with (go_at_call 131; first | ((with_reducible refine (fail_no _ _).mono ?_); rintro e w' ⟨rfl, rfl⟩) | ((with_reducible refine (fail_yes _ _).mono ?_); rintro e w' ⟨rfl, rfl⟩))
      go_end0
      exact ⟨by rw [hy.out], bl⟩
    · have hy := Lib.hid (show chkEnd (entFault ⟨false, leaf, r, u, d, f⟩ l) = .panicked [{ v := .iface 189 ((Value.int .i64) 7), recovered := false }] by
        unfold entFault
        rw [if_neg hl, if_pos rfl, if_neg (fun e => hz (by unfold En.zero at e; injection e with _ a b c d e; exact ⟨a, b, c, d, e⟩))]
        rfl)
      clear hl
      generalize entFault ⟨false, leaf, r, u, d, f⟩ l = c at hy ⊢
      cases leaf with
      | true => ((clear hz); go_enter Try.func128, Try.ntmps128; (go_wp2_with (go_at_call 131; first | ((with_reducible refine (fail_no _ _).mono ?_); rintro e w' ⟨rfl, rfl⟩) | ((with_reducible refine (fail_yes _ _).mono ?_); rintro e w' ⟨rfl, rfl⟩))); exact ⟨rfl, by rw [hy.out], bl⟩)
      | false =>
        by_cases r0 : r = 0
        · subst r0
          cases u with
          | true => ((clear hz); go_enter Try.func128, Try.ntmps128; (go_wp2_with (go_at_call 131; first | ((with_reducible refine (fail_no _ _).mono ?_); rintro e w' ⟨rfl, rfl⟩) | ((with_reducible refine (fail_yes _ _).mono ?_); rintro e w' ⟨rfl, rfl⟩))); exact ⟨rfl, by rw [hy.out], bl⟩)
          | false =>
            cases d with
            | true => ((clear hz); go_enter Try.func128, Try.ntmps128; (go_wp2_with (go_at_call 131; first | ((with_reducible refine (fail_no _ _).mono ?_); rintro e w' ⟨rfl, rfl⟩) | ((with_reducible refine (fail_yes _ _).mono ?_); rintro e w' ⟨rfl, rfl⟩))); exact ⟨rfl, by rw [hy.out], bl⟩)
            | false =>
              have f0 : (f == 0) = false := by
                rw [Bool.eq_false_iff]
                intro h
                exact hz ⟨rfl, rfl, rfl, rfl, by simpa using h⟩
              ((clear hz); go_enter Try.func128, Try.ntmps128; (go_wp2_with (go_at_call 131; first | ((with_reducible refine (fail_no _ _).mono ?_); rintro e w' ⟨rfl, rfl⟩) | ((with_reducible refine (fail_yes _ _).mono ?_); rintro e w' ⟨rfl, rfl⟩))); exact ⟨rfl, by rw [hy.out], bl⟩)
        · have r0' : (r == 0) = false := by simpa using r0
          clear r0
          ((clear hz); go_enter Try.func128, Try.ntmps128; (go_wp2_with (go_at_call 131; first | ((with_reducible refine (fail_no _ _).mono ?_); rintro e w' ⟨rfl, rfl⟩) | ((with_reducible refine (fail_yes _ _).mono ?_); rintro e w' ⟨rfl, rfl⟩))); exact ⟨rfl, by rw [hy.out], bl⟩)
  | true =>
    have ht : ¬ ((⟨true, leaf, r, u, d, f⟩ : En).there = false) := by simp
    by_cases hb : r < 0
    · have hy := Lib.hid (show chkEnd (entFault ⟨true, leaf, r, u, d, f⟩ l) = .panicked [{ v := .iface 189 ((Value.int .i64) 1), recovered := false }] by
        unfold entFault
        rw [if_neg hl, if_neg ht, if_pos (.inl hb)]
        rfl)
      clear hl ht
      generalize entFault ⟨true, leaf, r, u, d, f⟩ l = c at hy ⊢
      go_enter Try.func128, Try.ntmps128
      go_wp2_with (go_at_call 131; first | ((with_reducible refine (fail_no _ _).mono ?_); rintro e w' ⟨rfl, rfl⟩) | ((with_reducible refine (fail_yes _ _).mono ?_); rintro e w' ⟨rfl, rfl⟩))
      exact ⟨rfl, by rw [hy.out], bl⟩
    by_cases hb : 7 < r
    · have hy := Lib.hid (show chkEnd (entFault ⟨true, leaf, r, u, d, f⟩ l) = .panicked [{ v := .iface 189 ((Value.int .i64) 1), recovered := false }] by
        unfold entFault
        rw [if_neg hl, if_neg ht, if_pos (.inr (.inl hb))]
        rfl)
      clear hl ht
      generalize entFault ⟨true, leaf, r, u, d, f⟩ l = c at hy ⊢
      go_enter Try.func128, Try.ntmps128
      go_wp2_with (go_at_call 131; first | ((with_reducible refine (fail_no _ _).mono ?_); rintro e w' ⟨rfl, rfl⟩) | ((with_reducible refine (fail_yes _ _).mono ?_); rintro e w' ⟨rfl, rfl⟩))
      exact ⟨rfl, by rw [hy.out], bl⟩
    by_cases hb : f < 0
    · have hy := Lib.hid (show chkEnd (entFault ⟨true, leaf, r, u, d, f⟩ l) = .panicked [{ v := .iface 189 ((Value.int .i64) 1), recovered := false }] by
        unfold entFault
        rw [if_neg hl, if_neg ht, if_pos (.inr (.inr (.inl hb)))]
        rfl)
      clear hl ht
      generalize entFault ⟨true, leaf, r, u, d, f⟩ l = c at hy ⊢
      go_enter Try.func128, Try.ntmps128
      go_wp2_with (go_at_call 131; first | ((with_reducible refine (fail_no _ _).mono ?_); rintro e w' ⟨rfl, rfl⟩) | ((with_reducible refine (fail_yes _ _).mono ?_); rintro e w' ⟨rfl, rfl⟩))
      exact ⟨rfl, by rw [hy.out], bl⟩
    by_cases hb : 1048576 ≤ f
    · have hy := Lib.hid (show chkEnd (entFault ⟨true, leaf, r, u, d, f⟩ l) = .panicked [{ v := .iface 189 ((Value.int .i64) 1), recovered := false }] by
        unfold entFault
        rw [if_neg hl, if_neg ht, if_pos (.inr (.inr (.inr hb)))]
        rfl)
      clear hl ht
      generalize entFault ⟨true, leaf, r, u, d, f⟩ l = c at hy ⊢
      go_enter Try.func128, Try.ntmps128
      go_wp2_with (go_at_call 131; first | ((with_reducible refine (fail_no _ _).mono ?_); rintro e w' ⟨rfl, rfl⟩) | ((with_reducible refine (fail_yes _ _).mono ?_); rintro e w' ⟨rfl, rfl⟩))
      exact ⟨rfl, by rw [hy.out], bl⟩
    have hr : ¬ (r < 0 ∨ 7 < r ∨ f < 0 ∨ 1048576 ≤ f) := by omega
    have d1 : decide (r < 0) = false := by simp; omega
    have d2 : decide (7 < r) = false := by simp; omega
    have d3 : decide (f < 0) = false := by simp; omega
    have d4 : decide (1048576 ≤ f) = false := by simp; omega
    cases leaf with
    | false =>
      by_cases lz : l = 0
      · subst lz
        have hy := Lib.hid (show chkEnd (entFault ⟨true, false, r, u, d, f⟩ 0) = .panicked [{ v := .iface 189 ((Value.int .i64) 2), recovered := false }] by
          unfold entFault
          rw [if_neg hl, if_neg ht, if_neg hr, if_pos (.inr ⟨rfl, rfl⟩)]
          rfl)
        clear hl ht hr
        generalize entFault ⟨true, false, r, u, d, f⟩ 0 = c at hy ⊢
        go_enter Try.func128, Try.ntmps128
        go_wp2_with (go_at_call 131; first | ((with_reducible refine (fail_no _ _).mono ?_); rintro e w' ⟨rfl, rfl⟩) | ((with_reducible refine (fail_yes _ _).mono ?_); rintro e w' ⟨rfl, rfl⟩))
        exact ⟨rfl, by rw [hy.out], bl⟩
      have hk : ¬ ((false = true ∧ l = 3) ∨ (false = false ∧ l = 0)) := by simp [lz]
      by_cases hx : r ≠ 7 ∨ u = true ∨ d = true
      · have hy := Lib.hid (show chkEnd (entFault ⟨true, false, r, u, d, f⟩ l) = .panicked [{ v := .iface 189 ((Value.int .i64) 7), recovered := false }] by
          unfold entFault
          rw [if_neg hl, if_neg ht, if_neg hr, if_neg hk, if_pos rfl, if_pos hx]
          rfl)
        clear hl ht hr hk
        have lz' : (l == 0) = false := by simpa using lz
        generalize entFault ⟨true, false, r, u, d, f⟩ l = c at hy ⊢
        by_cases r7 : r = 7
        · cases u with
          | true =>
            clear hx
            subst r7
            go_enter Try.func128, Try.ntmps128
            go_wp2_with (go_at_call 131; first | ((with_reducible refine (fail_no _ _).mono ?_); rintro e w' ⟨rfl, rfl⟩) | ((with_reducible refine (fail_yes _ _).mono ?_); rintro e w' ⟨rfl, rfl⟩))
            exact ⟨rfl, by rw [hy.out], bl⟩
          | false =>
            obtain rfl : d = true := by rcases hx with hx | hx | hx; exact absurd r7 hx; cases hx; exact hx
            subst r7
            clear hx
            go_enter Try.func128, Try.ntmps128
            go_wp2_with (go_at_call 131; first | ((with_reducible refine (fail_no _ _).mono ?_); rintro e w' ⟨rfl, rfl⟩) | ((with_reducible refine (fail_yes _ _).mono ?_); rintro e w' ⟨rfl, rfl⟩))
            exact ⟨rfl, by rw [hy.out], bl⟩
        · have r7' : (r != 7) = true := by simpa using r7
          clear hx r7
          go_enter Try.func128, Try.ntmps128
          go_wp2_with (go_at_call 131; first | ((with_reducible refine (fail_no _ _).mono ?_); rintro e w' ⟨rfl, rfl⟩) | ((with_reducible refine (fail_yes _ _).mono ?_); rintro e w' ⟨rfl, rfl⟩))
          exact ⟨rfl, by rw [hy.out], bl⟩
      · obtain ⟨rfl, rfl, rfl⟩ : r = 7 ∧ u = false ∧ d = false := by
          refine ⟨?_, ?_, ?_⟩
          · exact Decidable.of_not_not fun h => hx (.inl h)
          · cases u with
            | false => rfl
            | true => exact absurd (.inr (.inl rfl)) hx
          · cases d with
            | false => rfl
            | true => exact absurd (.inr (.inr rfl)) hx
        have hy := Lib.hid (show chkEnd (entFault ⟨true, false, 7, false, false, f⟩ l) = .returned (.tuple #[]) by
          unfold entFault
          rw [if_neg hl, if_neg ht, if_neg hr, if_neg hk, if_pos rfl, if_neg hx]
          rfl)
        have lz' : (l == 0) = false := by simpa using lz
        clear hl ht hr hk hx lz
        generalize entFault ⟨true, false, 7, false, false, f⟩ l = c at hy ⊢
        go_enter Try.func128, Try.ntmps128
        go_wp2_with (go_at_call 131; first | ((with_reducible refine (fail_no _ _).mono ?_); rintro e w' ⟨rfl, rfl⟩) | ((with_reducible refine (fail_yes _ _).mono ?_); rintro e w' ⟨rfl, rfl⟩))
        go_end0
        exact ⟨by rw [hy.out], bl⟩
    | true =>
      by_cases l3 : l = 3
      · subst l3
        have hy := Lib.hid (show chkEnd (entFault ⟨true, true, r, u, d, f⟩ 3) = .panicked [{ v := .iface 189 ((Value.int .i64) 2), recovered := false }] by
          unfold entFault
          rw [if_neg hl, if_neg ht, if_neg hr, if_pos (.inl ⟨rfl, rfl⟩)]
          rfl)
        clear hl ht hr
        generalize entFault ⟨true, true, r, u, d, f⟩ 3 = c at hy ⊢
        go_enter Try.func128, Try.ntmps128
        go_wp2_with (go_at_call 131; first | ((with_reducible refine (fail_no _ _).mono ?_); rintro e w' ⟨rfl, rfl⟩) | ((with_reducible refine (fail_yes _ _).mono ?_); rintro e w' ⟨rfl, rfl⟩))
        exact ⟨rfl, by rw [hy.out], bl⟩
      have hk : ¬ ((true = true ∧ l = 3) ∨ (true = false ∧ l = 0)) := by simp [l3]
      have hsp : entFault ⟨true, true, r, u, d, f⟩ l = if f % span l ≠ 0 then 3 else 0 := by
        unfold entFault
        rw [if_neg hl, if_neg ht, if_neg hr, if_neg hk, if_neg (by simp)]
      have hl3 : l = 0 ∨ l = 1 ∨ l = 2 := by omega
      clear ht hr hk l3
      rcases hl3 with rfl | rfl | rfl
      · skip
        have hs : span 0 = 1 := rfl
        rw [hs] at hsp
        have hsc : ∀ W, Calls Try.prog 115 #[.int .i64 0] W (Same ((Value.int .i64) 1) W) := fun W => by
          have := span_any 0 W
          rwa [hs] at this
        have HS := Lib.hid hsc
        clear hs hsc
        have hm : f % 1 = 0 := Int.emod_one f
        have hy := Lib.hid (show chkEnd (entFault ⟨true, true, r, u, d, f⟩ 0) = .returned (.tuple #[]) by rw [hsp, if_neg (fun h => h hm)]; rfl)
        have hm' : (f.tmod 1 != 0) = false := by rw [Int.tmod_eq_emod_of_nonneg (by omega)]; rw [bne_eq_false_iff_eq]; exact hm
        clear hl hsp hm
        generalize entFault ⟨true, true, r, u, d, f⟩ 0 = c at hy ⊢
        go_enter Try.func128, Try.ntmps128
        go_wp2_with (go_at_call 131; first | ((with_reducible refine (fail_no _ _).mono ?_); rintro e w' ⟨rfl, rfl⟩) | ((with_reducible refine (fail_yes _ _).mono ?_); rintro e w' ⟨rfl, rfl⟩))
        go_region_with (first | (go_at_call 118; (with_reducible refine (size_any _ _).mono ?_); rintro e w' ⟨rfl, rfl⟩) | (go_at_call 115; (with_reducible refine (HS.out _).mono ?_); rintro e w' ⟨rfl, rfl⟩) | (go_at_call 131; first | ((with_reducible refine (fail_no _ _).mono ?_); rintro e w' ⟨rfl, rfl⟩) | ((with_reducible refine (fail_yes _ _).mono ?_); rintro e w' ⟨rfl, rfl⟩)))
        all_goals
          go_wp2
          go_end0
          exact ⟨by rw [hy.out], bl.drew⟩
      · skip
        have hs : span 1 = 8 := rfl
        rw [hs] at hsp
        have hsc : ∀ W, Calls Try.prog 115 #[.int .i64 1] W (Same ((Value.int .i64) 8) W) := fun W => by
          have := span_any 1 W
          rwa [hs] at this
        have HS := Lib.hid hsc
        clear hs hsc
        by_cases hm : f % 8 = 0
        · have hy := Lib.hid (show chkEnd (entFault ⟨true, true, r, u, d, f⟩ 1) = .returned (.tuple #[]) by rw [hsp, if_neg (fun h => h hm)]; rfl)
          have hm' : (f.tmod 8 != 0) = false := by rw [Int.tmod_eq_emod_of_nonneg (by omega)]; rw [bne_eq_false_iff_eq]; exact hm
          clear hl hsp hm
          generalize entFault ⟨true, true, r, u, d, f⟩ 1 = c at hy ⊢
          go_enter Try.func128, Try.ntmps128
          go_wp2_with (go_at_call 131; first | ((with_reducible refine (fail_no _ _).mono ?_); rintro e w' ⟨rfl, rfl⟩) | ((with_reducible refine (fail_yes _ _).mono ?_); rintro e w' ⟨rfl, rfl⟩))
          go_region_with (first | (go_at_call 118; (with_reducible refine (size_any _ _).mono ?_); rintro e w' ⟨rfl, rfl⟩) | (go_at_call 115; (with_reducible refine (HS.out _).mono ?_); rintro e w' ⟨rfl, rfl⟩) | (go_at_call 131; first | ((with_reducible refine (fail_no _ _).mono ?_); rintro e w' ⟨rfl, rfl⟩) | ((with_reducible refine (fail_yes _ _).mono ?_); rintro e w' ⟨rfl, rfl⟩)))
          all_goals
            go_wp2
            go_end0
            exact ⟨by rw [hy.out], bl.drew⟩
        · have hy := Lib.hid (show chkEnd (entFault ⟨true, true, r, u, d, f⟩ 1) = .panicked [{ v := .iface 189 ((Value.int .i64) 3), recovered := false }] by rw [hsp, if_pos hm]; rfl)
          have hm' : (f.tmod 8 != 0) = true := by rw [Int.tmod_eq_emod_of_nonneg (by omega)]; rw [bne_iff_ne]; exact hm
          clear hl hsp hm
          generalize entFault ⟨true, true, r, u, d, f⟩ 1 = c at hy ⊢
          go_enter Try.func128, Try.ntmps128
          go_wp2_with (go_at_call 131; first | ((with_reducible refine (fail_no _ _).mono ?_); rintro e w' ⟨rfl, rfl⟩) | ((with_reducible refine (fail_yes _ _).mono ?_); rintro e w' ⟨rfl, rfl⟩))
          have hw1 := Has.new (has_old w) #[Value.bool true, Value.bool true, (Value.int .i64) r, Value.bool u, Value.bool d, (Value.int .i64) f] 59
          generalize w.alloc (.cells #[Value.bool true, Value.bool true, (Value.int .i64) r, Value.bool u, Value.bool d, (Value.int .i64) f] 59) = W at *
          have cd : W.cell? ⟨w.heap.size, 5, none⟩ = some ((Value.int .i64) f) := hw1.cells6.2.2.2.2.2
          clear hw1
          go_still_tail 7, (by kernel_rfl)
          still_call ((size_any _ _).mono fun _ _ ⟨a, b⟩ => ⟨a, b.symm⟩)
          still_call ((HS.out _).mono fun _ _ ⟨a, b⟩ => ⟨a, b.symm⟩)
          repeat still_step
          try refine wpStill_nil ?_
          go_wp2_with (go_at_call 131; first | ((with_reducible refine (fail_no _ _).mono ?_); rintro e w' ⟨rfl, rfl⟩) | ((with_reducible refine (fail_yes _ _).mono ?_); rintro e w' ⟨rfl, rfl⟩))
          exact ⟨rfl, by rw [hy.out], bl.drew⟩
      · skip
        have hs : span 2 = 64 := rfl
        rw [hs] at hsp
        have hsc : ∀ W, Calls Try.prog 115 #[.int .i64 2] W (Same ((Value.int .i64) 64) W) := fun W => by
          have := span_any 2 W
          rwa [hs] at this
        have HS := Lib.hid hsc
        clear hs hsc
        by_cases hm : f % 64 = 0
        · have hy := Lib.hid (show chkEnd (entFault ⟨true, true, r, u, d, f⟩ 2) = .returned (.tuple #[]) by rw [hsp, if_neg (fun h => h hm)]; rfl)
          have hm' : (f.tmod 64 != 0) = false := by rw [Int.tmod_eq_emod_of_nonneg (by omega)]; rw [bne_eq_false_iff_eq]; exact hm
          clear hl hsp hm
          generalize entFault ⟨true, true, r, u, d, f⟩ 2 = c at hy ⊢
          go_enter Try.func128, Try.ntmps128
          go_wp2_with (go_at_call 131; first | ((with_reducible refine (fail_no _ _).mono ?_); rintro e w' ⟨rfl, rfl⟩) | ((with_reducible refine (fail_yes _ _).mono ?_); rintro e w' ⟨rfl, rfl⟩))
          go_region_with (first | (go_at_call 118; (with_reducible refine (size_any _ _).mono ?_); rintro e w' ⟨rfl, rfl⟩) | (go_at_call 115; (with_reducible refine (HS.out _).mono ?_); rintro e w' ⟨rfl, rfl⟩) | (go_at_call 131; first | ((with_reducible refine (fail_no _ _).mono ?_); rintro e w' ⟨rfl, rfl⟩) | ((with_reducible refine (fail_yes _ _).mono ?_); rintro e w' ⟨rfl, rfl⟩)))
          all_goals
            go_wp2
            go_end0
            exact ⟨by rw [hy.out], bl.drew⟩
        · have hy := Lib.hid (show chkEnd (entFault ⟨true, true, r, u, d, f⟩ 2) = .panicked [{ v := .iface 189 ((Value.int .i64) 3), recovered := false }] by rw [hsp, if_pos hm]; rfl)
          have hm' : (f.tmod 64 != 0) = true := by rw [Int.tmod_eq_emod_of_nonneg (by omega)]; rw [bne_iff_ne]; exact hm
          clear hl hsp hm
          generalize entFault ⟨true, true, r, u, d, f⟩ 2 = c at hy ⊢
          go_enter Try.func128, Try.ntmps128
          go_wp2_with (go_at_call 131; first | ((with_reducible refine (fail_no _ _).mono ?_); rintro e w' ⟨rfl, rfl⟩) | ((with_reducible refine (fail_yes _ _).mono ?_); rintro e w' ⟨rfl, rfl⟩))
          have hw1 := Has.new (has_old w) #[Value.bool true, Value.bool true, (Value.int .i64) r, Value.bool u, Value.bool d, (Value.int .i64) f] 59
          generalize w.alloc (.cells #[Value.bool true, Value.bool true, (Value.int .i64) r, Value.bool u, Value.bool d, (Value.int .i64) f] 59) = W at *
          have cd : W.cell? ⟨w.heap.size, 5, none⟩ = some ((Value.int .i64) f) := hw1.cells6.2.2.2.2.2
          clear hw1
          go_still_tail 7, (by kernel_rfl)
          still_call ((size_any _ _).mono fun _ _ ⟨a, b⟩ => ⟨a, b.symm⟩)
          still_call ((HS.out _).mono fun _ _ ⟨a, b⟩ => ⟨a, b.symm⟩)
          repeat still_step
          try refine wpStill_nil ?_
          go_wp2_with (go_at_call 131; first | ((with_reducible refine (fail_no _ _).mono ?_); rintro e w' ⟨rfl, rfl⟩) | ((with_reducible refine (fail_yes _ _).mono ?_); rintro e w' ⟨rfl, rfl⟩))
          exact ⟨rfl, by rw [hy.out], bl.drew⟩
end Go.Proofs.Ytacnjjjdkpbeaaa
