/- The contract of entry's check: it returns, or gives up with a code. -/
import Derived.Test.YtmfheghbgihdmaaFrames2
import Derived.Deep.RegionWith
import Derived.StillTailTactics
import Derived.Lib.VarintBits
import Derived.Test.YtmfheghbgihdmaaSep
import Derived.Test.YtmfheghbgihdmaaTblM3
import Derived.Laws.Rows
import Derived.Deep.RegionHeld3
namespace Go.Proofs.Ytmfheghbgihdmaa
open Go.RowKit
set_option maxRecDepth 100000
/-- How a look ends that tells a code. -/
def chkEnd (c : Int) : Ending := if c = 0 then .returned (.tuple #[]) else .panicked [{ v := .iface 162 ((Value.int .i64) c), recovered := false }]
def EndC (c : Int) (w : World) (e : Ending) (w' : World) : Prop := e = chkEnd c ∧ Below w.heap.size w w'
set_option maxHeartbeats 4000000 in
theorem check_look (th leaf u d : Bool) (r f l : Int) (w : World) : Calls Try.prog 94 #[.agg #[Value.bool th, Value.bool leaf, (Value.int .i64) r, Value.bool u, Value.bool d, (Value.int .i64) f], (Value.int .i64) l] w (EndC (entFault ⟨th, leaf, r, u, d, f⟩ l) w) := by
  have h1 := Has.new (has_old w) #[Value.bool th, Value.bool leaf, (Value.int .i64) r, Value.bool u, Value.bool d, (Value.int .i64) f] 51
  have bl := below_of1 h1.right ((Ext.refl w).alloc (.cells #[Value.bool th, Value.bool leaf, (Value.int .i64) r, Value.bool u, Value.bool d, (Value.int .i64) f] 51))
  clear h1
  by_cases l0 : l < 0
  · have hy := Lib.hid (show chkEnd (entFault ⟨th, leaf, r, u, d, f⟩ l) = .panicked [{ v := .iface 162 ((Value.int .i64) 1), recovered := false }] by unfold entFault; rw [if_pos (.inl l0)]; rfl)
    go_enter Try.func94, Try.ntmps94
    go_wp2_with (go_at_call 97; first | ((with_reducible refine (fail_no _ _).mono ?_); rintro e w' ⟨rfl, rfl⟩) | ((with_reducible refine (fail_yes _ _).mono ?_); rintro e w' ⟨rfl, rfl⟩))
    exact ⟨rfl, by rw [hy.out], bl⟩
  by_cases l4 : 4 ≤ l
  · have hy := Lib.hid (show chkEnd (entFault ⟨th, leaf, r, u, d, f⟩ l) = .panicked [{ v := .iface 162 ((Value.int .i64) 1), recovered := false }] by unfold entFault; rw [if_pos (.inr l4)]; rfl)
    go_enter Try.func94, Try.ntmps94
    go_wp2_with (go_at_call 97; first | ((with_reducible refine (fail_no _ _).mono ?_); rintro e w' ⟨rfl, rfl⟩) | ((with_reducible refine (fail_yes _ _).mono ?_); rintro e w' ⟨rfl, rfl⟩))
    exact ⟨rfl, by rw [hy.out], bl⟩
  have hl : ¬ (l < 0 ∨ 4 ≤ l) := by omega
  cases th with
  | false =>
    by_cases hz : leaf = false ∧ r = 0 ∧ u = false ∧ d = false ∧ f = 0
    · obtain ⟨rfl, rfl, rfl, rfl, rfl⟩ := hz
      have hy := Lib.hid (show chkEnd (entFault ⟨false, false, 0, false, false, 0⟩ l) = .returned (.tuple #[]) by unfold entFault; rw [if_neg hl]; rfl)
      clear hl
      go_enter Try.func94, Try.ntmps94
      go_wp2_with (go_at_call 97; first | ((with_reducible refine (fail_no _ _).mono ?_); rintro e w' ⟨rfl, rfl⟩) | ((with_reducible refine (fail_yes _ _).mono ?_); rintro e w' ⟨rfl, rfl⟩))
      go_end0
      exact ⟨by rw [hy.out], bl⟩
    · have hy := Lib.hid (show chkEnd (entFault ⟨false, leaf, r, u, d, f⟩ l) = .panicked [{ v := .iface 162 ((Value.int .i64) 7), recovered := false }] by
        unfold entFault
        rw [if_neg hl, if_pos rfl, if_neg (fun e => hz (by unfold En.zero at e; injection e with _ a b c d e; exact ⟨a, b, c, d, e⟩))]
        rfl)
      clear hl
      generalize entFault ⟨false, leaf, r, u, d, f⟩ l = c at hy ⊢
      cases leaf with
      | true => ((clear hz); go_enter Try.func94, Try.ntmps94; (go_wp2_with (go_at_call 97; first | ((with_reducible refine (fail_no _ _).mono ?_); rintro e w' ⟨rfl, rfl⟩) | ((with_reducible refine (fail_yes _ _).mono ?_); rintro e w' ⟨rfl, rfl⟩))); exact ⟨rfl, by rw [hy.out], bl⟩)
      | false =>
        by_cases r0 : r = 0
        · subst r0
          cases u with
          | true => ((clear hz); go_enter Try.func94, Try.ntmps94; (go_wp2_with (go_at_call 97; first | ((with_reducible refine (fail_no _ _).mono ?_); rintro e w' ⟨rfl, rfl⟩) | ((with_reducible refine (fail_yes _ _).mono ?_); rintro e w' ⟨rfl, rfl⟩))); exact ⟨rfl, by rw [hy.out], bl⟩)
          | false =>
            cases d with
            | true => ((clear hz); go_enter Try.func94, Try.ntmps94; (go_wp2_with (go_at_call 97; first | ((with_reducible refine (fail_no _ _).mono ?_); rintro e w' ⟨rfl, rfl⟩) | ((with_reducible refine (fail_yes _ _).mono ?_); rintro e w' ⟨rfl, rfl⟩))); exact ⟨rfl, by rw [hy.out], bl⟩)
            | false =>
              have f0 : (f == 0) = false := by
                rw [Bool.eq_false_iff]
                intro h
                exact hz ⟨rfl, rfl, rfl, rfl, by simpa using h⟩
              ((clear hz); go_enter Try.func94, Try.ntmps94; (go_wp2_with (go_at_call 97; first | ((with_reducible refine (fail_no _ _).mono ?_); rintro e w' ⟨rfl, rfl⟩) | ((with_reducible refine (fail_yes _ _).mono ?_); rintro e w' ⟨rfl, rfl⟩))); exact ⟨rfl, by rw [hy.out], bl⟩)
        · have r0' : (r == 0) = false := by simpa using r0
          clear r0
          ((clear hz); go_enter Try.func94, Try.ntmps94; (go_wp2_with (go_at_call 97; first | ((with_reducible refine (fail_no _ _).mono ?_); rintro e w' ⟨rfl, rfl⟩) | ((with_reducible refine (fail_yes _ _).mono ?_); rintro e w' ⟨rfl, rfl⟩))); exact ⟨rfl, by rw [hy.out], bl⟩)
  | true =>
    have ht : ¬ ((⟨true, leaf, r, u, d, f⟩ : En).there = false) := by simp
    by_cases hb : r < 0
    · have hy := Lib.hid (show chkEnd (entFault ⟨true, leaf, r, u, d, f⟩ l) = .panicked [{ v := .iface 162 ((Value.int .i64) 1), recovered := false }] by
        unfold entFault
        rw [if_neg hl, if_neg ht, if_pos (.inl hb)]
        rfl)
      clear hl ht
      generalize entFault ⟨true, leaf, r, u, d, f⟩ l = c at hy ⊢
      go_enter Try.func94, Try.ntmps94
      go_wp2_with (go_at_call 97; first | ((with_reducible refine (fail_no _ _).mono ?_); rintro e w' ⟨rfl, rfl⟩) | ((with_reducible refine (fail_yes _ _).mono ?_); rintro e w' ⟨rfl, rfl⟩))
      exact ⟨rfl, by rw [hy.out], bl⟩
    by_cases hb : 7 < r
    · have hy := Lib.hid (show chkEnd (entFault ⟨true, leaf, r, u, d, f⟩ l) = .panicked [{ v := .iface 162 ((Value.int .i64) 1), recovered := false }] by
        unfold entFault
        rw [if_neg hl, if_neg ht, if_pos (.inr (.inl hb))]
        rfl)
      clear hl ht
      generalize entFault ⟨true, leaf, r, u, d, f⟩ l = c at hy ⊢
      go_enter Try.func94, Try.ntmps94
      go_wp2_with (go_at_call 97; first | ((with_reducible refine (fail_no _ _).mono ?_); rintro e w' ⟨rfl, rfl⟩) | ((with_reducible refine (fail_yes _ _).mono ?_); rintro e w' ⟨rfl, rfl⟩))
      exact ⟨rfl, by rw [hy.out], bl⟩
    by_cases hb : f < 0
    · have hy := Lib.hid (show chkEnd (entFault ⟨true, leaf, r, u, d, f⟩ l) = .panicked [{ v := .iface 162 ((Value.int .i64) 1), recovered := false }] by
        unfold entFault
        rw [if_neg hl, if_neg ht, if_pos (.inr (.inr (.inl hb)))]
        rfl)
      clear hl ht
      generalize entFault ⟨true, leaf, r, u, d, f⟩ l = c at hy ⊢
      go_enter Try.func94, Try.ntmps94
      go_wp2_with (go_at_call 97; first | ((with_reducible refine (fail_no _ _).mono ?_); rintro e w' ⟨rfl, rfl⟩) | ((with_reducible refine (fail_yes _ _).mono ?_); rintro e w' ⟨rfl, rfl⟩))
      exact ⟨rfl, by rw [hy.out], bl⟩
    by_cases hb : 1048576 ≤ f
    · have hy := Lib.hid (show chkEnd (entFault ⟨true, leaf, r, u, d, f⟩ l) = .panicked [{ v := .iface 162 ((Value.int .i64) 1), recovered := false }] by
        unfold entFault
        rw [if_neg hl, if_neg ht, if_pos (.inr (.inr (.inr hb)))]
        rfl)
      clear hl ht
      generalize entFault ⟨true, leaf, r, u, d, f⟩ l = c at hy ⊢
      go_enter Try.func94, Try.ntmps94
      go_wp2_with (go_at_call 97; first | ((with_reducible refine (fail_no _ _).mono ?_); rintro e w' ⟨rfl, rfl⟩) | ((with_reducible refine (fail_yes _ _).mono ?_); rintro e w' ⟨rfl, rfl⟩))
      exact ⟨rfl, by rw [hy.out], bl⟩
    have hr : ¬ (r < 0 ∨ 7 < r ∨ f < 0 ∨ 1048576 ≤ f) := by omega
    have d1 : decide (r < 0) = false := by simp; omega
    have d2 : decide (7 < r) = false := by simp; omega
    have d3 : decide (f < 0) = false := by simp; omega
    have d4 : decide (1048576 ≤ f) = false := by simp; omega
    cases leaf with
    | false =>
      by_cases lz : l = 0
      · subst lz
        have hy := Lib.hid (show chkEnd (entFault ⟨true, false, r, u, d, f⟩ 0) = .panicked [{ v := .iface 162 ((Value.int .i64) 2), recovered := false }] by
          unfold entFault
          rw [if_neg hl, if_neg ht, if_neg hr, if_pos (.inr ⟨rfl, rfl⟩)]
          rfl)
        clear hl ht hr
        generalize entFault ⟨true, false, r, u, d, f⟩ 0 = c at hy ⊢
        go_enter Try.func94, Try.ntmps94
        go_wp2_with (go_at_call 97; first | ((with_reducible refine (fail_no _ _).mono ?_); rintro e w' ⟨rfl, rfl⟩) | ((with_reducible refine (fail_yes _ _).mono ?_); rintro e w' ⟨rfl, rfl⟩))
        exact ⟨rfl, by rw [hy.out], bl⟩
      have hk : ¬ ((false = true ∧ l = 3) ∨ (false = false ∧ l = 0)) := by simp [lz]
      by_cases hx : r ≠ 7 ∨ u = true ∨ d = true
      · have hy := Lib.hid (show chkEnd (entFault ⟨true, false, r, u, d, f⟩ l) = .panicked [{ v := .iface 162 ((Value.int .i64) 7), recovered := false }] by
          unfold entFault
          rw [if_neg hl, if_neg ht, if_neg hr, if_neg hk, if_pos rfl, if_pos hx]
          rfl)
        clear hl ht hr hk
        have lz' : (l == 0) = false := by simpa using lz
        generalize entFault ⟨true, false, r, u, d, f⟩ l = c at hy ⊢
        by_cases r7 : r = 7
        · cases u with
          | true =>
            clear hx
            subst r7
            go_enter Try.func94, Try.ntmps94
            go_wp2_with (go_at_call 97; first | ((with_reducible refine (fail_no _ _).mono ?_); rintro e w' ⟨rfl, rfl⟩) | ((with_reducible refine (fail_yes _ _).mono ?_); rintro e w' ⟨rfl, rfl⟩))
            exact ⟨rfl, by rw [hy.out], bl⟩
          | false =>
            obtain rfl : d = true := by rcases hx with hx | hx | hx; exact absurd r7 hx; cases hx; exact hx
            subst r7
            clear hx
            go_enter Try.func94, Try.ntmps94
            go_wp2_with (go_at_call 97; first | ((with_reducible refine (fail_no _ _).mono ?_); rintro e w' ⟨rfl, rfl⟩) | ((with_reducible refine (fail_yes _ _).mono ?_); rintro e w' ⟨rfl, rfl⟩))
            exact ⟨rfl, by rw [hy.out], bl⟩
        · have r7' : (r != 7) = true := by simpa using r7
          clear hx r7
          go_enter Try.func94, Try.ntmps94
          go_wp2_with (go_at_call 97; first | ((with_reducible refine (fail_no _ _).mono ?_); rintro e w' ⟨rfl, rfl⟩) | ((with_reducible refine (fail_yes _ _).mono ?_); rintro e w' ⟨rfl, rfl⟩))
          exact ⟨rfl, by rw [hy.out], bl⟩
      · obtain ⟨rfl, rfl, rfl⟩ : r = 7 ∧ u = false ∧ d = false := by
          refine ⟨?_, ?_, ?_⟩
          · exact Decidable.of_not_not fun h => hx (.inl h)
          · cases u with
            | false => rfl
            | true => exact absurd (.inr (.inl rfl)) hx
          · cases d with
            | false => rfl
            | true => exact absurd (.inr (.inr rfl)) hx
        have hy := Lib.hid (show chkEnd (entFault ⟨true, false, 7, false, false, f⟩ l) = .returned (.tuple #[]) by
          unfold entFault
          rw [if_neg hl, if_neg ht, if_neg hr, if_neg hk, if_pos rfl, if_neg hx]
          rfl)
        have lz' : (l == 0) = false := by simpa using lz
        clear hl ht hr hk hx lz
        generalize entFault ⟨true, false, 7, false, false, f⟩ l = c at hy ⊢
        go_enter Try.func94, Try.ntmps94
        go_wp2_with (go_at_call 97; first | ((with_reducible refine (fail_no _ _).mono ?_); rintro e w' ⟨rfl, rfl⟩) | ((with_reducible refine (fail_yes _ _).mono ?_); rintro e w' ⟨rfl, rfl⟩))
        go_end0
        exact ⟨by rw [hy.out], bl⟩
    | true =>
      by_cases l3 : l = 3
      · subst l3
        have hy := Lib.hid (show chkEnd (entFault ⟨true, true, r, u, d, f⟩ 3) = .panicked [{ v := .iface 162 ((Value.int .i64) 2), recovered := false }] by
          unfold entFault
          rw [if_neg hl, if_neg ht, if_neg hr, if_pos (.inl ⟨rfl, rfl⟩)]
          rfl)
        clear hl ht hr
        generalize entFault ⟨true, true, r, u, d, f⟩ 3 = c at hy ⊢
        go_enter Try.func94, Try.ntmps94
        go_wp2_with (go_at_call 97; first | ((with_reducible refine (fail_no _ _).mono ?_); rintro e w' ⟨rfl, rfl⟩) | ((with_reducible refine (fail_yes _ _).mono ?_); rintro e w' ⟨rfl, rfl⟩))
        exact ⟨rfl, by rw [hy.out], bl⟩
      have hk : ¬ ((true = true ∧ l = 3) ∨ (true = false ∧ l = 0)) := by simp [l3]
      have hsp : entFault ⟨true, true, r, u, d, f⟩ l = if f % span l ≠ 0 then 3 else 0 := by
        unfold entFault
        rw [if_neg hl, if_neg ht, if_neg hr, if_neg hk, if_neg (by simp)]
      have hl3 : l = 0 ∨ l = 1 ∨ l = 2 := by omega
      clear ht hr hk l3
      rcases hl3 with rfl | rfl | rfl
      · skip
        have hs : span 0 = 1 := rfl
        rw [hs] at hsp
        have hsc : ∀ W, Calls Try.prog 83 #[.int .i64 0] W (Same ((Value.int .i64) 1) W) := fun W => by
          have := span_any 0 W
          rwa [hs] at this
        have HS := Lib.hid hsc
        clear hs hsc
        have hm : f % 1 = 0 := Int.emod_one f
        have hy := Lib.hid (show chkEnd (entFault ⟨true, true, r, u, d, f⟩ 0) = .returned (.tuple #[]) by rw [hsp, if_neg (fun h => h hm)]; rfl)
        have hm' : (f.tmod 1 != 0) = false := by rw [Int.tmod_eq_emod_of_nonneg (by omega)]; rw [bne_eq_false_iff_eq]; exact hm
        clear hl hsp hm
        generalize entFault ⟨true, true, r, u, d, f⟩ 0 = c at hy ⊢
        go_enter Try.func94, Try.ntmps94
        go_wp2_with (go_at_call 97; first | ((with_reducible refine (fail_no _ _).mono ?_); rintro e w' ⟨rfl, rfl⟩) | ((with_reducible refine (fail_yes _ _).mono ?_); rintro e w' ⟨rfl, rfl⟩))
        go_region_with (first | (go_at_call 84; (with_reducible refine (size_any _ _).mono ?_); rintro e w' ⟨rfl, rfl⟩) | (go_at_call 83; (with_reducible refine (HS.out _).mono ?_); rintro e w' ⟨rfl, rfl⟩) | (go_at_call 97; first | ((with_reducible refine (fail_no _ _).mono ?_); rintro e w' ⟨rfl, rfl⟩) | ((with_reducible refine (fail_yes _ _).mono ?_); rintro e w' ⟨rfl, rfl⟩)))
        all_goals
          go_wp2
          go_end0
          exact ⟨by rw [hy.out], bl.drew⟩
      · skip
        have hs : span 1 = 8 := rfl
        rw [hs] at hsp
        have hsc : ∀ W, Calls Try.prog 83 #[.int .i64 1] W (Same ((Value.int .i64) 8) W) := fun W => by
          have := span_any 1 W
          rwa [hs] at this
        have HS := Lib.hid hsc
        clear hs hsc
        by_cases hm : f % 8 = 0
        · have hy := Lib.hid (show chkEnd (entFault ⟨true, true, r, u, d, f⟩ 1) = .returned (.tuple #[]) by rw [hsp, if_neg (fun h => h hm)]; rfl)
          have hm' : (f.tmod 8 != 0) = false := by rw [Int.tmod_eq_emod_of_nonneg (by omega)]; rw [bne_eq_false_iff_eq]; exact hm
          clear hl hsp hm
          generalize entFault ⟨true, true, r, u, d, f⟩ 1 = c at hy ⊢
          go_enter Try.func94, Try.ntmps94
          go_wp2_with (go_at_call 97; first | ((with_reducible refine (fail_no _ _).mono ?_); rintro e w' ⟨rfl, rfl⟩) | ((with_reducible refine (fail_yes _ _).mono ?_); rintro e w' ⟨rfl, rfl⟩))
          go_region_with (first | (go_at_call 84; (with_reducible refine (size_any _ _).mono ?_); rintro e w' ⟨rfl, rfl⟩) | (go_at_call 83; (with_reducible refine (HS.out _).mono ?_); rintro e w' ⟨rfl, rfl⟩) | (go_at_call 97; first | ((with_reducible refine (fail_no _ _).mono ?_); rintro e w' ⟨rfl, rfl⟩) | ((with_reducible refine (fail_yes _ _).mono ?_); rintro e w' ⟨rfl, rfl⟩)))
          all_goals
            go_wp2
            go_end0
            exact ⟨by rw [hy.out], bl.drew⟩
        · have hy := Lib.hid (show chkEnd (entFault ⟨true, true, r, u, d, f⟩ 1) = .panicked [{ v := .iface 162 ((Value.int .i64) 3), recovered := false }] by rw [hsp, if_pos hm]; rfl)
          have hm' : (f.tmod 8 != 0) = true := by rw [Int.tmod_eq_emod_of_nonneg (by omega)]; rw [bne_iff_ne]; exact hm
          clear hl hsp hm
          generalize entFault ⟨true, true, r, u, d, f⟩ 1 = c at hy ⊢
          go_enter Try.func94, Try.ntmps94
          go_wp2_with (go_at_call 97; first | ((with_reducible refine (fail_no _ _).mono ?_); rintro e w' ⟨rfl, rfl⟩) | ((with_reducible refine (fail_yes _ _).mono ?_); rintro e w' ⟨rfl, rfl⟩))
          have hw1 := Has.new (has_old w) #[Value.bool true, Value.bool true, (Value.int .i64) r, Value.bool u, Value.bool d, (Value.int .i64) f] 51
          generalize w.alloc (.cells #[Value.bool true, Value.bool true, (Value.int .i64) r, Value.bool u, Value.bool d, (Value.int .i64) f] 51) = W at *
          have cd : W.cell? ⟨w.heap.size, 5, none⟩ = some ((Value.int .i64) f) := hw1.cells6.2.2.2.2.2
          clear hw1
          go_still_tail 7, (by kernel_rfl)
          still_call ((size_any _ _).mono fun _ _ ⟨a, b⟩ => ⟨a, b.symm⟩)
          still_call ((HS.out _).mono fun _ _ ⟨a, b⟩ => ⟨a, b.symm⟩)
          repeat still_step
          try refine wpStill_nil ?_
          go_wp2_with (go_at_call 97; first | ((with_reducible refine (fail_no _ _).mono ?_); rintro e w' ⟨rfl, rfl⟩) | ((with_reducible refine (fail_yes _ _).mono ?_); rintro e w' ⟨rfl, rfl⟩))
          exact ⟨rfl, by rw [hy.out], bl.drew⟩
      · skip
        have hs : span 2 = 64 := rfl
        rw [hs] at hsp
        have hsc : ∀ W, Calls Try.prog 83 #[.int .i64 2] W (Same ((Value.int .i64) 64) W) := fun W => by
          have := span_any 2 W
          rwa [hs] at this
        have HS := Lib.hid hsc
        clear hs hsc
        by_cases hm : f % 64 = 0
        · have hy := Lib.hid (show chkEnd (entFault ⟨true, true, r, u, d, f⟩ 2) = .returned (.tuple #[]) by rw [hsp, if_neg (fun h => h hm)]; rfl)
          have hm' : (f.tmod 64 != 0) = false := by rw [Int.tmod_eq_emod_of_nonneg (by omega)]; rw [bne_eq_false_iff_eq]; exact hm
          clear hl hsp hm
          generalize entFault ⟨true, true, r, u, d, f⟩ 2 = c at hy ⊢
          go_enter Try.func94, Try.ntmps94
          go_wp2_with (go_at_call 97; first | ((with_reducible refine (fail_no _ _).mono ?_); rintro e w' ⟨rfl, rfl⟩) | ((with_reducible refine (fail_yes _ _).mono ?_); rintro e w' ⟨rfl, rfl⟩))
          go_region_with (first | (go_at_call 84; (with_reducible refine (size_any _ _).mono ?_); rintro e w' ⟨rfl, rfl⟩) | (go_at_call 83; (with_reducible refine (HS.out _).mono ?_); rintro e w' ⟨rfl, rfl⟩) | (go_at_call 97; first | ((with_reducible refine (fail_no _ _).mono ?_); rintro e w' ⟨rfl, rfl⟩) | ((with_reducible refine (fail_yes _ _).mono ?_); rintro e w' ⟨rfl, rfl⟩)))
          all_goals
            go_wp2
            go_end0
            exact ⟨by rw [hy.out], bl.drew⟩
        · have hy := Lib.hid (show chkEnd (entFault ⟨true, true, r, u, d, f⟩ 2) = .panicked [{ v := .iface 162 ((Value.int .i64) 3), recovered := false }] by rw [hsp, if_pos hm]; rfl)
          have hm' : (f.tmod 64 != 0) = true := by rw [Int.tmod_eq_emod_of_nonneg (by omega)]; rw [bne_iff_ne]; exact hm
          clear hl hsp hm
          generalize entFault ⟨true, true, r, u, d, f⟩ 2 = c at hy ⊢
          go_enter Try.func94, Try.ntmps94
          go_wp2_with (go_at_call 97; first | ((with_reducible refine (fail_no _ _).mono ?_); rintro e w' ⟨rfl, rfl⟩) | ((with_reducible refine (fail_yes _ _).mono ?_); rintro e w' ⟨rfl, rfl⟩))
          have hw1 := Has.new (has_old w) #[Value.bool true, Value.bool true, (Value.int .i64) r, Value.bool u, Value.bool d, (Value.int .i64) f] 51
          generalize w.alloc (.cells #[Value.bool true, Value.bool true, (Value.int .i64) r, Value.bool u, Value.bool d, (Value.int .i64) f] 51) = W at *
          have cd : W.cell? ⟨w.heap.size, 5, none⟩ = some ((Value.int .i64) f) := hw1.cells6.2.2.2.2.2
          clear hw1
          go_still_tail 7, (by kernel_rfl)
          still_call ((size_any _ _).mono fun _ _ ⟨a, b⟩ => ⟨a, b.symm⟩)
          still_call ((HS.out _).mono fun _ _ ⟨a, b⟩ => ⟨a, b.symm⟩)
          repeat still_step
          try refine wpStill_nil ?_
          go_wp2_with (go_at_call 97; first | ((with_reducible refine (fail_no _ _).mono ?_); rintro e w' ⟨rfl, rfl⟩) | ((with_reducible refine (fail_yes _ _).mono ?_); rintro e w' ⟨rfl, rfl⟩))
          exact ⟨rfl, by rw [hy.out], bl.drew⟩
end Go.Proofs.Ytmfheghbgihdmaa
namespace Go.Proofs.Ytmfheghbgihdmaa
open Go.RowKit
set_option maxRecDepth 100000
theorem look_any (b q : Nat) (th leaf u d : Bool) (r f l : Int) (w : World) (c0 : w.cell? ⟨b, 0, none⟩ = some (Value.bool th)) (c1 : w.cell? ⟨b, 1, none⟩ = some (Value.bool leaf)) (c2 : w.cell? ⟨b, 2, none⟩ = some ((Value.int .i64) r)) (c3 : w.cell? ⟨b, 3, none⟩ = some (Value.bool u)) (c4 : w.cell? ⟨b, 4, none⟩ = some (Value.bool d)) (c5 : w.cell? ⟨b, 5, none⟩ = some ((Value.int .i64) f)) (c6 : w.cell? ⟨q, 0, none⟩ = some ((Value.int .i64) l)) :
    Calls Try.prog 93 #[.pointer (some ⟨b, 0, none⟩), .pointer (some ⟨q, 0, none⟩)] w (EndC (entFault ⟨th, leaf, r, u, d, f⟩ l) w) := by
  by_cases hc : entFault ⟨th, leaf, r, u, d, f⟩ l = 0
  · have hy := Lib.hid (show chkEnd (entFault ⟨th, leaf, r, u, d, f⟩ l) = .returned (.tuple #[]) by unfold chkEnd; rw [if_pos hc])
    have HC := Lib.hid (fun W => check_look th leaf u d r f l W)
    clear hc
    go_enter Try.func93, Try.ntmps93
    go_wp2_with fail
    refine (HC.out _).mono ?_; rintro e w' ⟨he, bl⟩
    rw [hy.out] at he
    subst he
    go_wp2
    go_end0
    exact ⟨hy.out.symm, bl⟩
  · have hy := Lib.hid (show chkEnd (entFault ⟨th, leaf, r, u, d, f⟩ l) = .panicked [{ v := .iface 162 ((Value.int .i64) (entFault ⟨th, leaf, r, u, d, f⟩ l)), recovered := false }] by unfold chkEnd; rw [if_neg hc])
    have HC := Lib.hid (fun W => check_look th leaf u d r f l W)
    clear hc
    go_enter Try.func93, Try.ntmps93
    go_wp2_with fail
    refine (HC.out _).mono ?_; rintro e w' ⟨he, bl⟩
    rw [hy.out] at he
    subst he
    go_wp2
    exact ⟨rfl, hy.out.symm, bl⟩
theorem caught_any (b q : Nat) (th leaf u d : Bool) (r f l : Int) (w : World) (c0 : w.cell? ⟨b, 0, none⟩ = some (Value.bool th)) (c1 : w.cell? ⟨b, 1, none⟩ = some (Value.bool leaf)) (c2 : w.cell? ⟨b, 2, none⟩ = some ((Value.int .i64) r)) (c3 : w.cell? ⟨b, 3, none⟩ = some (Value.bool u)) (c4 : w.cell? ⟨b, 4, none⟩ = some (Value.bool d)) (c5 : w.cell? ⟨b, 5, none⟩ = some ((Value.int .i64) f)) (c6 : w.cell? ⟨q, 0, none⟩ = some ((Value.int .i64) l))
    (hb : b < w.heap.size) (hq : q < w.heap.size) :
    Calls Try.prog 92 #[.func (.func 93) #[] #[.pointer (some ⟨b, 0, none⟩), .pointer (some ⟨q, 0, none⟩)]] w (Pure ((Value.int .i64) (entFault ⟨th, leaf, r, u, d, f⟩ l)) w) := by
  have hmf : ∀ (fn : Fn) (first cap : Array Value) (w : World), (Instr.makeFunc fn first cap).run Try.prog w = .ok (.func fn first cap) w := fun _ _ _ _ => rfl
  have b1 := Below.alloc (Below.refl w.heap.size w) (Nat.le_refl _) (.cells #[(Value.int .i64) 0] 3)
  have k0 := (b1.cell (p := ⟨b, 0, none⟩) hb).trans c0
  have k1 := (b1.cell (p := ⟨b, 1, none⟩) hb).trans c1
  have k2 := (b1.cell (p := ⟨b, 2, none⟩) hb).trans c2
  have k3 := (b1.cell (p := ⟨b, 3, none⟩) hb).trans c3
  have k4 := (b1.cell (p := ⟨b, 4, none⟩) hb).trans c4
  have k5 := (b1.cell (p := ⟨b, 5, none⟩) hb).trans c5
  have k6 := (b1.cell (p := ⟨q, 0, none⟩) hq).trans c6
  clear c0 c1 c2 c3 c4 c5 c6
  have h1 := Has.new (has_old w) #[(Value.int .i64) 0] 3
  by_cases hc : entFault ⟨th, leaf, r, u, d, f⟩ l = 0
  · have hy := Lib.hid (show chkEnd (entFault ⟨th, leaf, r, u, d, f⟩ l) = .returned (.tuple #[]) by unfold chkEnd; rw [if_pos hc])
    rw [hc]
    have HC := Lib.hid (look_any b q th leaf u d r f l _ k0 k1 k2 k3 k4 k5 k6)
    clear hc k0 k1 k2 k3 k4 k5 k6
    go_enter_defers Try.func92, Try.ntmps92
    go_wp2_with fail
    refine (HC.out).mono ?_; rintro e w2 ⟨he, bl⟩
    rw [hy.out] at he
    subst he
    have h2 := h1.below bl
    have x2 := ((Ext.refl w).alloc (.cells #[(Value.int .i64) 0] 3)).below bl
    have z0 : w2.cell? ⟨w.heap.size, 0, none⟩ = some ((Value.int .i64) 0) := h2.cell 0
    have zf := h2.free 0
    have zl := h2.lt
    clear h1 bl hy HC
    go_wp2_with fail
    refine leaves_cons (f := 96) (args := #[.pointer (some ⟨w.heap.size, 0, none⟩)]) (by simp) (by simp [go_sem]) ?_
    refine (caught1_idle ⟨w.heap.size, 0, none⟩ _).mono ?_
    rintro e u' w'' ⟨rfl, rfl, rfl⟩
    have zz : (w2.setCell ⟨w.heap.size, 0, none⟩ ((Value.int .i64) 0)).cell? ⟨w.heap.size, 0, none⟩ = some ((Value.int .i64) 0) := (h2.set 0 ((Value.int .i64) 0)).cell 0
    simp [Leaves, settle, results, Try.results92, go_sem, zz]
    exact ⟨rfl, below_of1 (h2.set 0 _).right (x2.set _ _)⟩
  · have hy := Lib.hid (show chkEnd (entFault ⟨th, leaf, r, u, d, f⟩ l) = .panicked [{ v := .iface 162 ((Value.int .i64) (entFault ⟨th, leaf, r, u, d, f⟩ l)), recovered := false }] by unfold chkEnd; rw [if_neg hc])
    have HC := Lib.hid (look_any b q th leaf u d r f l _ k0 k1 k2 k3 k4 k5 k6)
    clear hc k0 k1 k2 k3 k4 k5 k6
    generalize entFault ⟨th, leaf, r, u, d, f⟩ l = c at *
    go_enter_defers Try.func92, Try.ntmps92
    go_wp2_with fail
    refine (HC.out).mono ?_; rintro e w2 ⟨he, bl⟩
    rw [hy.out] at he
    subst he
    have h2 := h1.below bl
    have x2 := ((Ext.refl w).alloc (.cells #[(Value.int .i64) 0] 3)).below bl
    have z0 : w2.cell? ⟨w.heap.size, 0, none⟩ = some ((Value.int .i64) 0) := h2.cell 0
    have zf := h2.free 0
    have zl := h2.lt
    clear h1 bl hy HC
    go_wp2_with fail
    refine leaves_cons (f := 96) (args := #[.pointer (some ⟨w.heap.size, 0, none⟩)]) (by simp) (by simp [go_sem]) ?_
    refine (caught1_panic ⟨w.heap.size, 0, none⟩ 0 c [] _ z0 zf).mono ?_
    rintro e u' w'' ⟨rfl, rfl, rfl⟩
    have zz : (w2.setCell ⟨w.heap.size, 0, none⟩ ((Value.int .i64) c)).cell? ⟨w.heap.size, 0, none⟩ = some ((Value.int .i64) c) := (h2.set 0 ((Value.int .i64) c)).cell 0
    simp [Leaves, settle, results, Try.results92, go_sem, zz]
    exact ⟨rfl, below_of1 (h2.set 0 _).right (x2.set _ _)⟩
/-- entry.Check. -/
theorem entCheck_any (e : En) (l : Int) (w : World) : Calls Try.prog 82 #[.agg #[Value.bool e.there, Value.bool e.leaf, (Value.int .i64) e.rights, Value.bool e.used, Value.bool e.dirty, (Value.int .i64) e.frame], .int .i64 l] w (Pure ((Value.int .i64) (entFault e l)) w) := by
  obtain ⟨th, leaf, r, u, d, f⟩ := e
  have hmf : ∀ (fn : Fn) (first cap : Array Value) (w : World), (Instr.makeFunc fn first cap).run Try.prog w = .ok (.func fn first cap) w := fun _ _ _ _ => rfl
  have h1 := (Has.new (has_old w) #[Value.bool th, Value.bool leaf, (Value.int .i64) r, Value.bool u, Value.bool d, (Value.int .i64) f] 51).new #[(Value.int .i64) l] 3
  have x1 := ((Ext.refl w).alloc (.cells #[Value.bool th, Value.bool leaf, (Value.int .i64) r, Value.bool u, Value.bool d, (Value.int .i64) f] 51)).alloc (.cells #[(Value.int .i64) l] 3)
  simp only [World.size_alloc] at h1
  have c6 := h1.cell 0
  obtain ⟨c0, c1, c2, c3, c4, c5⟩ := h1.right.cells6
  have HC := Lib.hid (caught_any w.heap.size (w.heap.size + 1) th leaf u d r f l _ c0 c1 c2 c3 c4 c5 c6 h1.right.lt h1.lt)
  clear c0 c1 c2 c3 c4 c5 c6
  go_enter Try.func82, Try.ntmps82
  go_wp2_with fail
  refine (HC.out).mono ?_; rintro e w2 ⟨rfl, bl⟩
  go_wp2
  go_ret
  exact ⟨rfl, below_of1 (h1.below bl).right.right (x1.below bl)⟩
end Go.Proofs.Ytmfheghbgihdmaa
namespace Go.Proofs.Ytmfheghbgihdmaa
open Go.RowKit
set_option maxRecDepth 100000
theorem or_word (r f : Int) (u d lf : Bool) (r0 : 0 ≤ r) (r7 : r ≤ 7) (f0 : 0 ≤ f) (f1 : f < 1048576) :
    bits .or .u64 (bits .or .u64 (bits .or .u64 (bits .or .u64 (bits .or .u64 1 (r * 2)) (b2i u 32)) (b2i d 64)) (b2i lf 128)) (f * 4096) = f * 4096 + r * 2 + 1 + b2i u 32 + b2i d 64 + b2i lf 128 := by
  have hu : b2i u 32 = 0 ∨ b2i u 32 = 32 := by cases u <;> simp [b2i]
  have hd : b2i d 64 = 0 ∨ b2i d 64 = 64 := by cases d <;> simp [b2i]
  have hl : b2i lf 128 = 0 ∨ b2i lf 128 = 128 := by cases lf <;> simp [b2i]
  generalize b2i u 32 = a at *
  generalize b2i d 64 = b at *
  generalize b2i lf 128 = c at *
  rw [bits_join_low .u64 64 (by decide) wraps_u64 1 1 (r * 2) (by omega) (by omega) (by omega) (by omega) (by omega) (by omega)]
  rw [bits_join_low .u64 64 (by decide) wraps_u64 5 (1 + r * 2) a (by omega) (by omega) (by omega) (by omega) (by omega) (by omega)]
  rw [bits_join_low .u64 64 (by decide) wraps_u64 6 (1 + r * 2 + a) b (by omega) (by omega) (by omega) (by omega) (by omega) (by omega)]
  rw [bits_join_low .u64 64 (by decide) wraps_u64 7 (1 + r * 2 + a + b) c (by omega) (by omega) (by omega) (by omega) (by omega) (by omega)]
  rw [bits_join_low .u64 64 (by decide) wraps_u64 12 (1 + r * 2 + a + b + c) (f * 4096) (by omega) (by omega) (by omega) (by omega) (by omega) (by omega)]
  omega
set_option maxHeartbeats 2000000 in
theorem encode_any (e : En) (l : Int) (w : World) : Calls Try.prog 67 #[.agg #[Value.bool e.there, Value.bool e.leaf, (Value.int .i64) e.rights, Value.bool e.used, Value.bool e.dirty, (Value.int .i64) e.frame], .int .i64 l] w (Pure (.tuple #[(Value.int .u64) (encW e l), (Value.int .i64) (entFault e l)]) w) := by
  obtain ⟨th, leaf, r, u, d, f⟩ := e
  have h1 := Has.new (has_old w) #[Value.bool th, Value.bool leaf, (Value.int .i64) r, Value.bool u, Value.bool d, (Value.int .i64) f] 51
  have x1 := (Ext.refl w).alloc (.cells #[Value.bool th, Value.bool leaf, (Value.int .i64) r, Value.bool u, Value.bool d, (Value.int .i64) f] 51)
  have HC := Lib.hid (fun W => entCheck_any ⟨th, leaf, r, u, d, f⟩ l W)
  by_cases hc : entFault ⟨th, leaf, r, u, d, f⟩ l = 0
  · rw [hc] at HC ⊢
    cases th with
    | false =>
      have hy := Lib.hid (show encW ⟨false, leaf, r, u, d, f⟩ l = 0 by unfold encW; rw [if_neg (by simp)])
      clear hc
      go_enter Try.func67, Try.ntmps67
      go_wp2_with fail
      refine (HC.out _).mono ?_; rintro e w2 ⟨rfl, bl⟩
      have h2 := h1.below bl
      obtain ⟨c0, c1, c2, c3, c4, c5⟩ := h2.cells6
      go_wp2
      go_ret2
      exact ⟨by rw [hy.out]; rfl, below_of1 h2.right (x1.below bl)⟩
    | true =>
      have hk := entOk_of hc rfl
      have hy := Lib.hid (show encW ⟨true, leaf, r, u, d, f⟩ l = wordE ⟨true, leaf, r, u, d, f⟩ l by unfold encW; rw [if_pos ⟨hc, rfl⟩])
      have r0 : 0 ≤ r := hk.r0
      have r7 : r ≤ 7 := hk.r7
      have f0 : 0 ≤ f := hk.f0
      have f1 : f < 1048576 := hk.f1
      have l0 := hk.l0
      have l4 := hk.l4
      clear hc hk
      cases leaf with
      | false =>
        go_enter Try.func67, Try.ntmps67
        go_wp2_with fail
        refine (HC.out _).mono ?_; rintro e w2 ⟨rfl, bl⟩
        have h2 := h1.below bl
        obtain ⟨c0, c1, c2, c3, c4, c5⟩ := h2.cells6
        have v0 := via_cell c0
        have v1 := via_cell c1
        have v2 := via_cell c2
        have v3 := via_cell c3
        have v4 := via_cell c4
        have v5 := via_cell c5
        clear c1 c2 c3 c4 c5
        go_wp2
        refine wp_region_via (by kernel_rfl) (by kernel_rfl) ?_
        repeat (first | go_big_quiet_step ((go_at_call 87; exact Same.via (bit_any _ _ _))) | quiet_step ((go_at_call 87; exact Same.via (bit_any _ _ _))))
        refine wpQuiet_nil ?_
        intro _ hw'
        obtain ⟨uq, hw''⟩ := hw'
        subst hw''
        go_wp2
        go_ret2
        refine ⟨?_, below_of1 (h2.via _).right ((x1.below bl).below (via_below _ _))⟩
        rw [hy.out]
        show Ending.returned (.tuple #[(Value.int .u64) _, (Value.int .i64) 0]) = _
        refine congrArg (fun n : Int => Ending.returned (.tuple #[(Value.int .u64) n, (Value.int .i64) 0])) ?_
        exact (or_word r f u d _ r0 r7 f0 f1).trans (by unfold wordE; simp)
      | true =>
        by_cases lz : l = 0
        · subst lz
          go_enter Try.func67, Try.ntmps67
          go_wp2_with fail
          refine (HC.out _).mono ?_; rintro e w2 ⟨rfl, bl⟩
          have h2 := h1.below bl
          obtain ⟨c0, c1, c2, c3, c4, c5⟩ := h2.cells6
          have v0 := via_cell c0
          have v1 := via_cell c1
          have v2 := via_cell c2
          have v3 := via_cell c3
          have v4 := via_cell c4
          have v5 := via_cell c5
          clear c1 c2 c3 c4 c5
          go_wp2
          refine wp_region_via (by kernel_rfl) (by kernel_rfl) ?_
          repeat (first | go_big_quiet_step ((go_at_call 87; exact Same.via (bit_any _ _ _))) | quiet_step ((go_at_call 87; exact Same.via (bit_any _ _ _))))
          refine wpQuiet_nil ?_
          intro _ hw'
          obtain ⟨uq, hw''⟩ := hw'
          subst hw''
          go_wp2
          go_ret2
          refine ⟨?_, below_of1 (h2.via _).right ((x1.below bl).below (via_below _ _))⟩
          rw [hy.out]
          show Ending.returned (.tuple #[(Value.int .u64) _, (Value.int .i64) 0]) = _
          refine congrArg (fun n : Int => Ending.returned (.tuple #[(Value.int .u64) n, (Value.int .i64) 0])) ?_
          exact (or_word r f u d _ r0 r7 f0 f1).trans (by unfold wordE; simp)
        · have l1 : 0 < l := by omega
          have hz := Lib.hid (show (l != 0) = true by simpa using lz)
          clear lz
          go_enter Try.func67, Try.ntmps67
          go_wp2_with fail
          refine (HC.out _).mono ?_; rintro e w2 ⟨rfl, bl⟩
          have h2 := h1.below bl
          obtain ⟨c0, c1, c2, c3, c4, c5⟩ := h2.cells6
          have v0 := via_cell c0
          have v1 := via_cell c1
          have v2 := via_cell c2
          have v3 := via_cell c3
          have v4 := via_cell c4
          have v5 := via_cell c5
          clear c1 c2 c3 c4 c5
          go_wp2
          refine wp_region_via (by kernel_rfl) (by kernel_rfl) ?_
          repeat (first | go_big_quiet_step ((go_at_call 87; exact Same.via (bit_any _ _ _))) | quiet_step ((go_at_call 87; exact Same.via (bit_any _ _ _))))
          refine wpQuiet_nil ?_
          intro _ hw'
          obtain ⟨uq, hw''⟩ := hw'
          subst hw''
          go_wp2
          go_ret2
          refine ⟨?_, below_of1 (h2.via _).right ((x1.below bl).below (via_below _ _))⟩
          rw [hy.out]
          show Ending.returned (.tuple #[(Value.int .u64) _, (Value.int .i64) 0]) = _
          refine congrArg (fun n : Int => Ending.returned (.tuple #[(Value.int .u64) n, (Value.int .i64) 0])) ?_
          exact (or_word r f u d _ r0 r7 f0 f1).trans (by unfold wordE; rw [hz.out]; simp)
  · have hy := Lib.hid (show encW ⟨th, leaf, r, u, d, f⟩ l = 0 from encW_fault hc)
    have hn : (entFault ⟨th, leaf, r, u, d, f⟩ l != 0) = true := by simpa using hc
    clear hc
    generalize entFault ⟨th, leaf, r, u, d, f⟩ l = c at *
    go_enter Try.func67, Try.ntmps67
    go_wp2_with fail
    refine (HC.out _).mono ?_; rintro e w2 ⟨rfl, bl⟩
    have h2 := h1.below bl
    go_wp2
    go_ret2
    exact ⟨by rw [hy.out]; rfl, below_of1 h2.right (x1.below bl)⟩
end Go.Proofs.Ytmfheghbgihdmaa
namespace Go.Proofs.Ytmfheghbgihdmaa
open Go.RowKit
theorem and_shift (W m k : Nat) : W &&& (m * 2 ^ k) = ((W / 2 ^ k) &&& m) * 2 ^ k := by
  apply Nat.eq_of_testBit_eq
  intro i
  rw [Nat.testBit_and, Nat.testBit_mul_two_pow, Nat.testBit_mul_two_pow, Nat.testBit_and, Nat.testBit_div_two_pow]
  by_cases h : k ≤ i
  · rw [show i - k + k = i by omega]
    simp [h]
  · simp [h]
theorem knownMask (W : Nat) : (W &&& 18446744069414588176 = 0) ↔ (W / 16 % 2 = 0 ∧ W / 256 % 16 = 0 ∧ W / 4294967296 % 4294967296 = 0) := by
  have e : 18446744069414588176 = (1 * 2 ^ 4) ||| ((15 * 2 ^ 8) ||| (4294967295 * 2 ^ 32)) := by decide
  have a1 : ∀ x : Nat, x &&& 1 = x % 2 := fun x => Nat.and_two_pow_sub_one_eq_mod x 1
  have a2 : ∀ x : Nat, x &&& 15 = x % 16 := fun x => Nat.and_two_pow_sub_one_eq_mod x 4
  have a3 : ∀ x : Nat, x &&& 4294967295 = x % 4294967296 := fun x => Nat.and_two_pow_sub_one_eq_mod x 32
  rw [e, Nat.and_or_distrib_left, Nat.and_or_distrib_left, and_shift, and_shift, and_shift, a1, a2, a3, Nat.or_eq_zero_iff, Nat.or_eq_zero_iff]
  omega
theorem ofInt64 (n : Nat) (h : n < 18446744073709551616) : (BitVec.ofInt 64 (n : Int)).toNat = n := by
  rw [BitVec.ofInt_natCast, BitVec.toNat_ofNat]
  omega
theorem wrapU (n : Nat) (h : n < 18446744073709551616) : IntKind.u64.wrap (n : Int) = n := by rw [IntKind.wrap_u64]; omega
/-- The bits that no word has. -/
def strayB (w : Int) : Bool := !(decide (w / 16 % 2 = 0) && (decide (w / 256 % 16 = 0) && decide (w < 4294967296)))
theorem andNot_known (w : Int) (h0 : 0 ≤ w) (h1 : w < 18446744073709551616) : (bits .andNot .u64 w 4294963439 != 0) = strayB w := by
  obtain ⟨n, rfl⟩ := Int.eq_ofNat_of_zero_le h0
  have hv : bits .andNot .u64 (n : Int) 4294963439 = ((n &&& 18446744069414588176 : Nat) : Int) := by
    show IntKind.u64.wrap ((BitVec.ofInt 64 (n : Int) &&& ~~~BitVec.ofInt 64 ((4294963439 : Nat) : Int)).toNat : Int) = _
    rw [BitVec.toNat_and, BitVec.toNat_not, ofInt64 n (by omega), ofInt64 4294963439 (by decide)]
    rw [show 2 ^ 64 - 1 - 4294963439 = 18446744069414588176 by decide]
    exact wrapU _ (Nat.lt_of_le_of_lt Nat.and_le_left (by omega))
  rw [hv]
  have hk := knownMask n
  unfold strayB
  by_cases h : n &&& 18446744069414588176 = 0
  · rw [h]
    obtain ⟨a, b, c⟩ := hk.1 h
    have a' : (n : Int) / 16 % 2 = 0 := by omega
    have b' : (n : Int) / 256 % 16 = 0 := by omega
    have c' : (n : Int) < 4294967296 := by omega
    simp [a', b', c']
  · have : (((n &&& 18446744069414588176 : Nat) : Int) != 0) = true := by
      rw [bne_iff_ne]
      omega
    rw [this]
    symm
    rw [Bool.not_eq_true', Bool.eq_false_iff]
    intro hh
    simp only [Bool.and_eq_true, decide_eq_true_eq] at hh
    obtain ⟨a, b, c⟩ := hh
    exact h (hk.2 ⟨by omega, by omega, by omega⟩)
theorem and_bit (w : Int) (k : Nat) (hk : k < 64) (h0 : 0 ≤ w) (h1 : w < 18446744073709551616) : (bits .and .u64 w ((2 ^ k : Nat) : Int) != 0) = bitOf w ((2 ^ k : Nat) : Int) := by
  obtain ⟨n, rfl⟩ := Int.eq_ofNat_of_zero_le h0
  have hp : 2 ^ k < 18446744073709551616 := by
    have : 2 ^ k < 2 ^ 64 := Nat.pow_lt_pow_right (by omega) hk
    simpa using this
  have hv : bits .and .u64 (n : Int) ((2 ^ k : Nat) : Int) = ((n / 2 ^ k % 2 * 2 ^ k : Nat) : Int) := by
    show IntKind.u64.wrap ((BitVec.ofInt 64 (n : Int) &&& BitVec.ofInt 64 ((2 ^ k : Nat) : Int)).toNat : Int) = _
    rw [BitVec.toNat_and, ofInt64 n (by omega), ofInt64 _ hp]
    have a1 : ∀ x : Nat, x &&& 1 = x % 2 := fun x => Nat.and_two_pow_sub_one_eq_mod x 1
    have := and_shift n 1 k
    rw [Nat.one_mul, a1] at this
    rw [this]
    exact wrapU _ (by rw [← this]; exact Nat.lt_of_le_of_lt Nat.and_le_left (by omega))
  rw [hv]
  unfold bitOf
  rw [← Int.natCast_ediv]
  have hpos : 0 < 2 ^ k := Nat.two_pow_pos k
  have : n / 2 ^ k % 2 = 0 ∨ n / 2 ^ k % 2 = 1 := by omega
  generalize n / 2 ^ k = m at *
  rcases this with h | h
  · have e : (m : Int) % 2 = 0 := by omega
    rw [h, e, Nat.zero_mul]
    rfl
  · have e : (m : Int) % 2 = 1 := by omega
    rw [h, e]
    rw [bne_iff_ne.2 (by omega)]
    rfl
theorem and32 (w : Int) (h0 : 0 ≤ w) (h1 : w < 18446744073709551616) : (bits .and .u64 w 32 != 0) = bitOf w 32 := and_bit w 5 (by decide) h0 h1
theorem and64 (w : Int) (h0 : 0 ≤ w) (h1 : w < 18446744073709551616) : (bits .and .u64 w 64 != 0) = bitOf w 64 := and_bit w 6 (by decide) h0 h1
theorem and128 (w : Int) (h0 : 0 ≤ w) (h1 : w < 18446744073709551616) : (bits .and .u64 w 128 != 0) = bitOf w 128 := and_bit w 7 (by decide) h0 h1
theorem and1 (w : Int) (h0 : 0 ≤ w) (h1 : w < 18446744073709551616) : bits .and .u64 w 1 = w % 2 := by
  have h := bits_mask .u64 64 (by decide) wraps_u64 1 (by decide) w h0 (by omega)
  simpa using h
theorem and7 (w : Int) (h0 : 0 ≤ w) (h1 : w < 18446744073709551616) : bits .and .u64 (w / 2) 7 = w / 2 % 8 := by
  have h := bits_mask .u64 64 (by decide) wraps_u64 3 (by decide) (w / 2) (by omega) (by omega)
  simpa using h
end Go.Proofs.Ytmfheghbgihdmaa
namespace Go.Proofs.Ytmfheghbgihdmaa
open Go.RowKit
/-- The value of a decoding. -/
def decV (w l : Int) : Value := .tuple #[.agg #[Value.bool (decE w l).there, Value.bool (decE w l).leaf, (Value.int .i64) (decE w l).rights, Value.bool (decE w l).used, Value.bool (decE w l).dirty, (Value.int .i64) (decE w l).frame], (Value.int .i64) (decC w l)]
theorem decV_no {w l c : Int} (h : decC w l = c) (hc : c ≠ 0 ∨ w = 0) : decV w l = .tuple #[.agg #[Value.bool false, Value.bool false, (Value.int .i64) 0, Value.bool false, Value.bool false, (Value.int .i64) 0], (Value.int .i64) c] := by
  unfold decV
  have : decE w l = En.zero := by
    unfold decE
    rw [if_neg]
    rintro ⟨a, b⟩
    rcases hc with hc | hc
    · exact hc (h ▸ a)
    · exact b hc
  rw [this, h]
  rfl
theorem decC_stray {w l : Int} (hl : 0 ≤ l ∧ l < 4) (h : strayB w = true ∨ (w % 2 = 0 ∧ w ≠ 0) ∨ (l = 0 ∧ bitOf w 128 = true)) : decC w l = 7 := by
  unfold decC
  rw [if_neg (by omega), if_pos]
  rintro ⟨a, b, c, d, e⟩
  rcases h with h | h | ⟨h1, h2⟩
  · unfold strayB at h
    simp [a, b, c] at h
  · omega
  · have := e h1
    unfold bitOf at h2
    simp at h2
    omega
theorem decC_ok {w l : Int} (hl : 0 ≤ l ∧ l < 4) (h1 : strayB w = false) (h2 : w = 0 ∨ w % 2 = 1) (h3 : l = 0 → bitOf w 128 = false) : decC w l = if w = 0 then 0 else entFault (unword w l) l := by
  unfold decC
  rw [if_neg (by omega), if_neg]
  rw [Decidable.not_not]
  unfold strayB at h1
  simp at h1
  obtain ⟨a, b, c⟩ := h1
  refine ⟨a, b, c, h2, fun e => ?_⟩
  have := h3 e
  unfold bitOf at this
  simp at this
  omega
theorem leafMap_no {e : En} {l a : Int} (h : entFault e l ≠ 0 ∨ e.leaf = false ∨ hasB a = false) : leafMap e l a = Mp.zero := by
  unfold leafMap
  rw [if_neg]
  rintro ⟨h1, h2, h3, h4⟩
  rcases h with h | h | h
  · exact h h1
  · rw [h] at h2; cases h2
  · unfold hasB at h
    simp at h
    omega
end Go.Proofs.Ytmfheghbgihdmaa
namespace Go.Proofs.Ytmfheghbgihdmaa
open Go.RowKit
theorem Has.set6 {w : World} {R : HProp} {b : Nat} {v0 v1 v2 v3 v4 v5 : Value} {t : TypeId} (h : Has w (blk b #[v0, v1, v2, v3, v4, v5] t * R)) (u0 u1 u2 u3 u4 u5 : Value) :
    Has ((((((w.setCell ⟨b, 0, none⟩ u0).setCell ⟨b, 1, none⟩ u1).setCell ⟨b, 2, none⟩ u2).setCell ⟨b, 3, none⟩ u3).setCell ⟨b, 4, none⟩ u4).setCell ⟨b, 5, none⟩ u5) (blk b #[u0, u1, u2, u3, u4, u5] t * R) :=
  (((((h.set 0 u0).set 1 u1).set 2 u2).set 3 u3).set 4 u4).set 5 u5
theorem Has.frees6 {w : World} {R : HProp} {b : Nat} {v0 v1 v2 v3 v4 v5 : Value} {t : TypeId} (h : Has w (blk b #[v0, v1, v2, v3, v4, v5] t * R)) :
    w.frozen? ⟨b, 0, none⟩ = false ∧ w.frozen? ⟨b, 1, none⟩ = false ∧ w.frozen? ⟨b, 2, none⟩ = false ∧ w.frozen? ⟨b, 3, none⟩ = false ∧ w.frozen? ⟨b, 4, none⟩ = false ∧ w.frozen? ⟨b, 5, none⟩ = false :=
  ⟨h.free 0, h.free 1, h.free 2, h.free 3, h.free 4, h.free 5⟩
theorem ret_via {P : Program} {fn : Func} {R : Ending → World → Prop} {a : Act} {w : World} (F : World → Prop) (hF : F w) (h : ∀ wz, F wz → bodyPost P fn R .ret a wz) : bodyPost P fn R .ret a w := h w hF
section
variable {P : Program} {fn : Func} {tmps : Array Value} {w : World}
/-- One result, in cells. -/
theorem results_c {a : Nat} {t : TypeId} {p : Addr} {v : Value} (hr : fn.results = #[.cell a t]) (ha : tmps.getD a undef = .pointer (some p)) (hl : (loadVar t p).run P w = .ok v w) : (results fn tmps).run P w = .ok v w := by
  unfold results
  rw [hr]
  simp only [Array.getD_eq_getD_getElem?] at ha
  simp [asAddr, ha, hl]
/-- Two results: the first in cells. -/
theorem results_ct {a b : Nat} {t : TypeId} {p : Addr} {v u : Value} (hr : fn.results = #[.cell a t, .tmp b]) (ha : tmps.getD a undef = .pointer (some p)) (hb : tmps.getD b undef = u) (hl : (loadVar t p).run P w = .ok v w) :
    (results fn tmps).run P w = .ok (.tuple #[v, u]) w := by
  unfold results
  rw [hr]
  simp only [Array.getD_eq_getD_getElem?] at ha hb
  simp [asAddr, ha, hb, hl]
/-- Three results: the first in cells. -/
theorem results_ctt {a b c : Nat} {t : TypeId} {p : Addr} {v u x : Value} (hr : fn.results = #[.cell a t, .tmp b, .tmp c]) (ha : tmps.getD a undef = .pointer (some p)) (hb : tmps.getD b undef = u) (hc : tmps.getD c undef = x) (hl : (loadVar t p).run P w = .ok v w) :
    (results fn tmps).run P w = .ok (.tuple #[v, u, x]) w := by
  unfold results
  rw [hr]
  simp only [Array.getD_eq_getD_getElem?] at ha hb hc
  simp [asAddr, ha, hb, hc, hl]
end
theorem load_entry {w : World} {R : HProp} {b : Nat} {v0 v1 v2 v3 v4 v5 : Value} (h : Has w (blk b #[v0, v1, v2, v3, v4, v5] 51 * R)) : (loadVar 51 ⟨b, 0, none⟩).run Try.prog w = .ok (.agg #[v0, v1, v2, v3, v4, v5]) w :=
  run_loadVar_row w b 51 51 _ _ _ h.heap Try.underlying51 rfl (by kernel_rfl)
theorem load_map {w : World} {R : HProp} {b : Nat} {v0 v1 v2 v3 : Value} (h : Has w (blk b #[v0, v1, v2, v3] 31 * R)) : (loadVar 31 ⟨b, 0, none⟩).run Try.prog w = .ok (.agg #[v0, v1, v2, v3]) w :=
  run_loadVar_row w b 31 31 _ _ _ h.heap Try.underlying31 rfl (by kernel_rfl)
theorem load_answer {w : World} {R : HProp} {b : Nat} {v0 v1 v2 : Value} (h : Has w (blk b #[v0, v1, v2] 37 * R)) : (loadVar 37 ⟨b, 0, none⟩).run Try.prog w = .ok (.agg #[v0, v1, v2]) w :=
  run_loadVar_row w b 37 37 _ _ _ h.heap Try.underlying37 rfl (by kernel_rfl)
theorem load_fault {w : World} {R : HProp} {b : Nat} {v0 v1 : Value} (h : Has w (blk b #[v0, v1] 27 * R)) : (loadVar 27 ⟨b, 0, none⟩).run Try.prog w = .ok (.agg #[v0, v1]) w :=
  run_loadVar_row w b 27 27 _ _ _ h.heap Try.underlying27 rfl (by kernel_rfl)
end Go.Proofs.Ytmfheghbgihdmaa
namespace Go.Proofs.Ytmfheghbgihdmaa
open Go.RowKit
set_option maxRecDepth 100000
set_option maxHeartbeats 4000000 in
theorem decode_any (w l : Int) (W : World) (h0 : 0 ≤ w) (h1 : w < 18446744073709551616) : Calls Try.prog 81 #[.int .u64 w, .int .i64 l] W (Pure (decV w l) W) := by
  have hw := Has.new (has_old W) #[Value.bool false, Value.bool false, (Value.int .i64) 0, Value.bool false, Value.bool false, (Value.int .i64) 0] 51
  have xw := (Ext.refl W).alloc (.cells #[Value.bool false, Value.bool false, (Value.int .i64) 0, Value.bool false, Value.bool false, (Value.int .i64) 0] 51)
  by_cases l0 : l < 0
  · have hy := Lib.hid (decV_no (w := w) (l := l) (c := 1) (by unfold decC; rw [if_pos (.inl l0)]) (.inl (by decide)))
    generalize decV _ l = V at hy ⊢
    go_enter Try.func81, Try.ntmps81
    go_wp2
    all_goals exact bodyPost_ret (results_ct Try.results81 rfl rfl (load_entry hw)) rfl ⟨congrArg Ending.returned hy.out.symm, below_of1 hw.right xw⟩
  by_cases l4 : 4 ≤ l
  · have hy := Lib.hid (decV_no (w := w) (l := l) (c := 1) (by unfold decC; rw [if_pos (.inr l4)]) (.inl (by decide)))
    generalize decV _ l = V at hy ⊢
    go_enter Try.func81, Try.ntmps81
    go_wp2
    all_goals exact bodyPost_ret (results_ct Try.results81 rfl rfl (load_entry hw)) rfl ⟨congrArg Ending.returned hy.out.symm, below_of1 hw.right xw⟩
  have e1 := and1 w h0 h1
  have e7 := and7 w h0 h1
  have e32 := and32 w h0 h1
  have e64 := and64 w h0 h1
  have e128 := and128 w h0 h1
  have eA := andNot_known w h0 h1
  have hl : 0 ≤ l ∧ l < 4 := by omega
  cases hs : strayB w with
  | true =>
    have hy := Lib.hid (decV_no (decC_stray hl (.inl hs)) (.inl (by decide)))
    rw [hs] at eA
    clear hs hl
    generalize decV _ l = V at hy ⊢
    go_enter Try.func81, Try.ntmps81
    go_wp2
    all_goals exact bodyPost_ret (results_ct Try.results81 rfl rfl (load_entry hw)) rfl ⟨congrArg Ending.returned hy.out.symm, below_of1 hw.right xw⟩
  | false =>
    rw [hs] at eA
    by_cases wz : w = 0
    · subst wz
      have hy := Lib.hid (decV_no (w := 0) (l := l) (c := 0) (by rw [decC_ok hl hs (.inl rfl) (fun _ => rfl)]; rfl) (.inr rfl))
      have z : (bits .and .u64 0 128 != 0) = false := rfl
      clear hs hl e1 e7 e32 e64 e128
      have e1 : bits .and .u64 0 1 = 0 := rfl
      generalize decV _ l = V at hy ⊢
      go_enter Try.func81, Try.ntmps81
      go_wp2
      all_goals exact bodyPost_ret (results_ct Try.results81 rfl rfl (load_entry hw)) rfl ⟨congrArg Ending.returned hy.out.symm, below_of1 hw.right xw⟩
    have wz' : (w != 0) = true := by simpa using wz
    have wz'' : (w == 0) = false := by simpa using wz
    by_cases w1 : w % 2 = 0
    · have hy := Lib.hid (decV_no (decC_stray hl (.inr (.inl ⟨w1, wz⟩))) (.inl (by decide)))
      have w1' : (w % 2 == 0) = true := by simpa using w1
      clear hs hl w1 wz
      generalize decV _ l = V at hy ⊢
      go_enter Try.func81, Try.ntmps81
      go_wp2
      all_goals exact bodyPost_ret (results_ct Try.results81 rfl rfl (load_entry hw)) rfl ⟨congrArg Ending.returned hy.out.symm, below_of1 hw.right xw⟩
    have w1' : (w % 2 == 0) = false := by simpa using w1
    have w2 : w % 2 = 1 := by omega
    by_cases lz : l = 0 ∧ bitOf w 128 = true
    · obtain ⟨rfl, lb⟩ := lz
      have hy := Lib.hid (decV_no (decC_stray hl (.inr (.inr ⟨rfl, lb⟩))) (.inl (by decide)))
      rw [lb] at e128
      clear hs hl w1 wz w2 lb
      generalize decV _ 0 = V at hy ⊢
      go_enter Try.func81, Try.ntmps81
      go_wp2
      all_goals exact bodyPost_ret (results_ct Try.results81 rfl rfl (load_entry hw)) rfl ⟨congrArg Ending.returned hy.out.symm, below_of1 hw.right xw⟩
    have hd : decC w l = entFault (unword w l) l := by
      rw [decC_ok hl hs (.inr w2) (fun e => ?_), if_neg wz]
      cases hb : bitOf w 128 with
      | false => rfl
      | true => exact absurd ⟨e, hb⟩ lz
    have b32 : w < 4294967296 := by
      unfold strayB at hs
      simp at hs
      exact hs.2.2
    have hv0 : decC w l = 0 → decV w l = .tuple #[.agg #[Value.bool true, Value.bool (unword w l).leaf, (Value.int .i64) (w / 2 % 8), Value.bool (bitOf w 32), Value.bool (bitOf w 64), (Value.int .i64) (w / 4096)], (Value.int .i64) 0] := fun hc => by
      unfold decV decE
      rw [if_pos ⟨hc, wz⟩, hc]
      rfl
    have hv0 := Lib.hid hv0
    by_cases l00 : l = 0
    · subst l00
      have he : unword w 0 = ⟨true, true, w / 2 % 8, bitOf w 32, bitOf w 64, w / 4096⟩ := rfl
      have e128' : bitOf w 128 = false := by
        cases hb : bitOf w 128 with
        | false => rfl
        | true => exact absurd ⟨rfl, hb⟩ lz
      rw [e128'] at e128
      clear e128'
      have HC : ∀ X, Calls Try.prog 82 #[.agg #[Value.bool true, Value.bool (true), (Value.int .i64) (w / 2 % 8), Value.bool (bitOf w 32), Value.bool (bitOf w 64), (Value.int .i64) (w / 4096)], .int .i64 0] X (Pure ((Value.int .i64) (decC w 0)) X) := fun X => by
        have := entCheck_any (unword w 0) 0 X
        rw [← hd, he] at this
        exact this
      have HC := Lib.hid HC
      rw [he] at hv0
      have hx := hw.new #[Value.bool true, Value.bool (true), (Value.int .i64) (w / 2 % 8), Value.bool (bitOf w 32), Value.bool (bitOf w 64), (Value.int .i64) (w / 4096)] 51
      have xx := xw.alloc (.cells #[Value.bool true, Value.bool (true), (Value.int .i64) (w / 2 % 8), Value.bool (bitOf w 32), Value.bool (bitOf w 64), (Value.int .i64) (w / 4096)] 51)
      simp only [World.size_alloc] at hx
      have hno := Lib.hid (fun hc => decV_no (w := w) (l := 0) (c := decC w 0) rfl (.inl hc))
      clear hs hl w1 wz w2 lz hd he
      by_cases hc : decC w 0 = 0
      · have hy := Lib.hid (hv0.out hc)
        rw [hc] at HC
        clear hc hv0 hno
        generalize decV w 0 = V at hy ⊢
        go_enter Try.func81, Try.ntmps81
        go_wp2_with fail
        refine (HC.out _).mono ?_; rintro e w2 ⟨rfl, bl⟩
        have h2 := hx.below bl
        have x2 := xx.below bl
        obtain ⟨c0, c1, c2, c3, c4, c5⟩ := h2.cells6
        obtain ⟨d0, d1, d2, d3, d4, d5⟩ := h2.right.cells6
        obtain ⟨f0, f1, f2, f3, f4, f5⟩ := h2.right.frees6
        have l2 := h2.right.lt
        clear HC bl hx xx hw xw
        go_wp2
        refine ret_via (fun wz => Has wz (blk W.heap.size #[Value.bool true, Value.bool (true), (Value.int .i64) (w / 2 % 8), Value.bool (bitOf w 32), Value.bool (bitOf w 64), (Value.int .i64) (w / 4096)] 51 * old W W.heap.size) ∧ Ext W wz) ⟨h2.right.set6 _ _ _ _ _ _, by (repeat (first | with_reducible assumption | with_reducible exact Ext.refl _ | with_reducible refine Ext.set ?_ _ _ | with_reducible refine Ext.alloc ?_ _ | with_reducible refine Ext.drew ?_ | with_reducible refine Ext.drewN ?_ _ | assumption | exact Ext.refl _ | refine Ext.alloc ?_ _ | refine Ext.set ?_ _ _ | refine Ext.drew ?_ | refine Ext.drewN ?_ _ | refine Ext.below ?_ (by assumption) | refine Ext.trans ?_ (by assumption)))⟩ ?_
        rintro wz ⟨hz, xz⟩
        exact bodyPost_ret (results_ct Try.results81 rfl rfl (load_entry hz)) rfl ⟨congrArg Ending.returned hy.out.symm, below_of1 hz.right xz⟩
      · have hy := Lib.hid (hno.out hc)
        have hn : (decC w 0 != 0) = true := by simpa using hc
        clear hc hv0 hno
        generalize decV w 0 = V at hy ⊢
        generalize decC w 0 = c at *
        go_enter Try.func81, Try.ntmps81
        go_wp2_with fail
        refine (HC.out _).mono ?_; rintro e w2 ⟨rfl, bl⟩
        have h2 := hx.below bl
        have x2 := xx.below bl
        obtain ⟨c0, c1, c2, c3, c4, c5⟩ := h2.cells6
        obtain ⟨d0, d1, d2, d3, d4, d5⟩ := h2.right.cells6
        obtain ⟨f0, f1, f2, f3, f4, f5⟩ := h2.right.frees6
        have l2 := h2.right.lt
        clear HC bl hx xx hw xw
        go_wp2
        refine ret_via (fun wz => Has wz (blk W.heap.size #[Value.bool false, Value.bool false, (Value.int .i64) 0, Value.bool false, Value.bool false, (Value.int .i64) 0] 51 * old W W.heap.size) ∧ Ext W wz) ⟨h2.right.set6 _ _ _ _ _ _, by (repeat (first | with_reducible assumption | with_reducible exact Ext.refl _ | with_reducible refine Ext.set ?_ _ _ | with_reducible refine Ext.alloc ?_ _ | with_reducible refine Ext.drew ?_ | with_reducible refine Ext.drewN ?_ _ | assumption | exact Ext.refl _ | refine Ext.alloc ?_ _ | refine Ext.set ?_ _ _ | refine Ext.drew ?_ | refine Ext.drewN ?_ _ | refine Ext.below ?_ (by assumption) | refine Ext.trans ?_ (by assumption)))⟩ ?_
        rintro wz ⟨hz, xz⟩
        exact bodyPost_ret (results_ct Try.results81 rfl rfl (load_entry hz)) rfl ⟨congrArg Ending.returned hy.out.symm, below_of1 hz.right xz⟩
    · have l00' : (l == 0) = false := by simpa using l00
      have he : unword w l = ⟨true, bitOf w 128, w / 2 % 8, bitOf w 32, bitOf w 64, w / 4096⟩ := by unfold unword; rw [l00']; rfl
      clear l00
      have HC : ∀ X, Calls Try.prog 82 #[.agg #[Value.bool true, Value.bool (bitOf w 128), (Value.int .i64) (w / 2 % 8), Value.bool (bitOf w 32), Value.bool (bitOf w 64), (Value.int .i64) (w / 4096)], .int .i64 l] X (Pure ((Value.int .i64) (decC w l)) X) := fun X => by
        have := entCheck_any (unword w l) l X
        rw [← hd, he] at this
        exact this
      have HC := Lib.hid HC
      rw [he] at hv0
      have hx := hw.new #[Value.bool true, Value.bool (bitOf w 128), (Value.int .i64) (w / 2 % 8), Value.bool (bitOf w 32), Value.bool (bitOf w 64), (Value.int .i64) (w / 4096)] 51
      have xx := xw.alloc (.cells #[Value.bool true, Value.bool (bitOf w 128), (Value.int .i64) (w / 2 % 8), Value.bool (bitOf w 32), Value.bool (bitOf w 64), (Value.int .i64) (w / 4096)] 51)
      simp only [World.size_alloc] at hx
      have hno := Lib.hid (fun hc => decV_no (w := w) (l := l) (c := decC w l) rfl (.inl hc))
      clear hs hl w1 wz w2 lz hd he
      by_cases hc : decC w l = 0
      · have hy := Lib.hid (hv0.out hc)
        rw [hc] at HC
        clear hc hv0 hno
        generalize decV w l = V at hy ⊢
        go_enter Try.func81, Try.ntmps81
        go_wp2_with fail
        refine (HC.out _).mono ?_; rintro e w2 ⟨rfl, bl⟩
        have h2 := hx.below bl
        have x2 := xx.below bl
        obtain ⟨c0, c1, c2, c3, c4, c5⟩ := h2.cells6
        obtain ⟨d0, d1, d2, d3, d4, d5⟩ := h2.right.cells6
        obtain ⟨f0, f1, f2, f3, f4, f5⟩ := h2.right.frees6
        have l2 := h2.right.lt
        clear HC bl hx xx hw xw
        go_wp2
        refine ret_via (fun wz => Has wz (blk W.heap.size #[Value.bool true, Value.bool (bitOf w 128), (Value.int .i64) (w / 2 % 8), Value.bool (bitOf w 32), Value.bool (bitOf w 64), (Value.int .i64) (w / 4096)] 51 * old W W.heap.size) ∧ Ext W wz) ⟨h2.right.set6 _ _ _ _ _ _, by (repeat (first | with_reducible assumption | with_reducible exact Ext.refl _ | with_reducible refine Ext.set ?_ _ _ | with_reducible refine Ext.alloc ?_ _ | with_reducible refine Ext.drew ?_ | with_reducible refine Ext.drewN ?_ _ | assumption | exact Ext.refl _ | refine Ext.alloc ?_ _ | refine Ext.set ?_ _ _ | refine Ext.drew ?_ | refine Ext.drewN ?_ _ | refine Ext.below ?_ (by assumption) | refine Ext.trans ?_ (by assumption)))⟩ ?_
        rintro wz ⟨hz, xz⟩
        exact bodyPost_ret (results_ct Try.results81 rfl rfl (load_entry hz)) rfl ⟨congrArg Ending.returned hy.out.symm, below_of1 hz.right xz⟩
      · have hy := Lib.hid (hno.out hc)
        have hn : (decC w l != 0) = true := by simpa using hc
        clear hc hv0 hno
        generalize decV w l = V at hy ⊢
        generalize decC w l = c at *
        go_enter Try.func81, Try.ntmps81
        go_wp2_with fail
        refine (HC.out _).mono ?_; rintro e w2 ⟨rfl, bl⟩
        have h2 := hx.below bl
        have x2 := xx.below bl
        obtain ⟨c0, c1, c2, c3, c4, c5⟩ := h2.cells6
        obtain ⟨d0, d1, d2, d3, d4, d5⟩ := h2.right.cells6
        obtain ⟨f0, f1, f2, f3, f4, f5⟩ := h2.right.frees6
        have l2 := h2.right.lt
        clear HC bl hx xx hw xw
        go_wp2
        refine ret_via (fun wz => Has wz (blk W.heap.size #[Value.bool false, Value.bool false, (Value.int .i64) 0, Value.bool false, Value.bool false, (Value.int .i64) 0] 51 * old W W.heap.size) ∧ Ext W wz) ⟨h2.right.set6 _ _ _ _ _ _, by (repeat (first | with_reducible assumption | with_reducible exact Ext.refl _ | with_reducible refine Ext.set ?_ _ _ | with_reducible refine Ext.alloc ?_ _ | with_reducible refine Ext.drew ?_ | with_reducible refine Ext.drewN ?_ _ | assumption | exact Ext.refl _ | refine Ext.alloc ?_ _ | refine Ext.set ?_ _ _ | refine Ext.drew ?_ | refine Ext.drewN ?_ _ | refine Ext.below ?_ (by assumption) | refine Ext.trans ?_ (by assumption)))⟩ ?_
        rintro wz ⟨hz, xz⟩
        exact bodyPost_ret (results_ct Try.results81 rfl rfl (load_entry hz)) rfl ⟨congrArg Ending.returned hy.out.symm, below_of1 hz.right xz⟩
end Go.Proofs.Ytmfheghbgihdmaa
namespace Go.Proofs.Ytmfheghbgihdmaa
section
variable {P : Program} {md : Region.Mode} {ops : Array Oper} {Q : Exit → Act → World → Prop} (S : Array Bool → World → Prop)
/-- Whatever comes up next: behind it the condition holds, of what has come up then. -/
def anyL (P : Program) (md : Region.Mode) (ops : Array Oper) (Q : Exit → Act → World → Prop) : Nat → Array Bool → Act → World → Prop
  | 0, L, a, w => Region.ready md ops L = [] ∧ Q .normal a w
  | n + 1, L, a, w => (Region.ready md ops L = [] → Q .normal a w) ∧
      ∀ k, k ∈ Region.ready md ops L → wpOp P ops Q k (fun b u => S (L.setIfInBounds k true) u ∧ anyL P md ops Q n (L.setIfInBounds k true) b u) a w
variable {S}
theorem anyL_any : ∀ {n : Nat} {L : Array Bool} {a : Act} {w : World}, anyL S P md ops Q n L a w → wpAny P md ops Q n L a w
  | 0, _, _, _, h => h
  | _ + 1, _, _, _, ⟨h1, h2⟩ => ⟨h1, fun k hk => wpOp_mono (fun _ _ h => anyL_any h.2) (h2 k hk)⟩
/-- The worlds in which number i may come up. -/
def Still (S : Array Bool → World → Prop) (i : Nat) (w : World) : Prop := ∃ L, L.getD i false = false ∧ S L w
/-- What the condition asks of an operation that is taken first. -/
structure Good (md : Region.Mode) (ops : Array Oper) (i : Nat) (S : Array Bool → World → Prop) : Prop where
  up : ∀ L w, S L w → S (L.setIfInBounds i true) w
  back : ∀ (L : Array Bool) (j : Nat) (oj : Oper) (w w' : World), S L w → L.getD i false = false → ops[j]? = some oj → j ≠ i → (∀ e ∈ oj.after, Region.binds md e = true → e.on ≠ i) →
    S ((L.setIfInBounds j true).setIfInBounds i true) w' → S (L.setIfInBounds j true) w'
theorem Good.and {i : Nat} {S T : Array Bool → World → Prop} (h1 : Good md ops i S) (h2 : Good md ops i T) : Good md ops i fun L w => S L w ∧ T L w :=
  ⟨fun L w h => ⟨h1.up L w h.1, h2.up L w h.2⟩, fun L j oj w w' h hi ho hj hn h' => ⟨h1.back L j oj w w' h.1 hi ho hj hn h'.1, h2.back L j oj w w' h.2 hi ho hj hn h'.2⟩⟩
/-- Till number k, which waits for number d, has come up something holds. -/
def Till (k d : Nat) (p : World → Prop) (L : Array Bool) (w : World) : Prop := (L.getD k false = true → L.getD d false = true) ∧ (L.getD k false = false → p w)
theorem getD_set_or {L : Array Bool} {j k : Nat} (h : (L.setIfInBounds j true).getD k false = true) : k = j ∨ L.getD k false = true := by
  by_cases e : j = k
  · exact .inl e.symm
  · rw [getD_set_ne false e] at h
    exact .inr h
theorem Good.till {i k d : Nat} {p : World → Prop} (hk : i ≠ k) (hd : ∃ o e, ops[k]? = some o ∧ e ∈ o.after ∧ Region.binds md e = true ∧ e.on = d) : Good md ops i (Till k d p) := by
  constructor
  · rintro L w ⟨h1, h2⟩
    constructor
    · intro h
      rw [getD_set_ne false hk] at h
      exact getD_set_true (h1 h)
    · intro h
      rw [getD_set_ne false hk] at h
      exact h2 h
  · rintro L j oj w w' ⟨h1, _⟩ hi hoj hj hn ⟨g1, g2⟩
    constructor
    · intro h
      have hd' := g1 (getD_set_true h)
      by_cases e : i = d
      · exfalso
        rcases getD_set_or h with hkj | hkj
        · obtain ⟨o, x, ho, hx, hb, hxd⟩ := hd
          rw [hkj, hoj] at ho
          injection ho with ho
          subst ho
          exact hn x hx hb (hxd.trans e.symm)
        · have := h1 hkj
          rw [← e, hi] at this
          cases this
      · rwa [getD_set_ne false e] at hd'
    · intro h
      refine g2 ?_
      rw [getD_set_ne false hk]
      exact h
theorem Till.still {k d : Nat} {p : World → Prop} {w : World} {L : Array Bool} (h : Till k d p L w) (hd : L.getD d false = false) : p w := by
  refine h.2 ?_
  cases hk : L.getD k false with
  | false => rfl
  | true => rw [h.1 hk] at hd; cases hd
theorem till_gone {b : Bool} {p : Prop} (h : b = true) (h' : b = false) : p := by rw [h] at h'; cases h'
theorem Till.start {k d n : Nat} {p : World → Prop} {w : World} (h : p w) : Till k d p (Array.replicate n false) w := by
  have e : (Array.replicate n false).getD k false = false := by
    rcases Nat.lt_or_ge k n with h | h
    · simp [h]
    · simp [h]
  exact ⟨fun h => (by rw [e] at h; cases h), fun _ => h⟩
theorem anyL_first {i : Nat} {o : Oper} {v : Value} (hi : ops[i]? = some o) (hsel : ∀ (j : Nat) (o : Oper) cs b, ops[j]? = some o → o.op ≠ .select cs b)
    (hQ : ∀ c a w, Q (.panic c) (a.put o.dst v) w → Q (.panic c) a w) (hG : Good md ops i S) :
    ∀ (n : Nat) (L : Array Bool) (a : Act) (w : World),
      (∀ j oj, ops[j]? = some oj → j ≠ i → L.getD j true = false → (∀ e ∈ oj.after, Region.binds md e = true → e.on ≠ i) → o.apart ops oj = true) →
      i ∈ Region.ready md ops L → YieldsIf P ops (Still S i) o v a → S L w →
      anyL S P md ops Q n (L.setIfInBounds i true) (a.put o.dst v) w → anyL S P md ops Q (n + 1) L a w := by
  intro n
  induction n with
  | zero =>
    intro L a w _ hr hy h0 H
    have hun : L.getD i false = false := by
      have := (mem_ready.1 hr).1
      rcases Nat.lt_or_ge i L.size with h | h
      · simpa [h] using this
      · simp [Array.getElem?_eq_none h]
    constructor
    · intro h
      rw [h] at hr
      cases hr
    · intro j hj
      by_cases e : j = i
      · subst e
        exact hy.wpOp hi ⟨L, hun, h0⟩ ⟨hG.up _ _ h0, H⟩
      · have hm := ready_mono hj e
        rw [H.1] at hm
        cases hm
  | succ n ih =>
    intro L a w hfree hr hy h0 H
    have hun : L.getD i false = false := by
      have := (mem_ready.1 hr).1
      rcases Nat.lt_or_ge i L.size with h | h
      · simpa [h] using this
      · simp [Array.getElem?_eq_none h]
    constructor
    · intro h
      rw [h] at hr
      cases hr
    · intro j hj
      by_cases e : j = i
      · subst e
        exact hy.wpOp hi ⟨L, hun, h0⟩ ⟨hG.up _ _ h0, H⟩
      · obtain ⟨hjun, oj, hoj, hall⟩ := mem_ready.1 hj
        have hno : ∀ x ∈ oj.after, Region.binds md x = true → x.on ≠ i := by
          intro x hx hb he
          have hl := hall x hx hb
          rw [he, hun] at hl
          cases hl
        have step := wpOp_putIf hoj (hfree j oj hoj e hjun hno) (fun cs b => hsel i o cs b hi) (fun cs b => hsel j oj cs b hoj) hQ hy (H.2 j (ready_mono hj e))
        refine wpOp_mono ?_ step
        rintro a' w' ⟨y', s', H'⟩
        rw [Array.setIfInBounds_comm _ _ (Ne.symm e)] at s' H'
        refine ⟨hG.back L j oj w w' h0 hun hoj e hno s', ih _ a' w' ?_ (ready_mono hr (Ne.symm e)) y' (hG.back L j oj w w' h0 hun hoj e hno s') H'⟩
        intro k ok hk hki hku hkn
        refine hfree k ok hk hki ?_ hkn
        by_cases hjk : j = k
        · subst hjk
          exact hjun
        · rwa [getD_set_ne true hjk] at hku
theorem anyL_take {i : Nat} {o : Oper} {v : Value} {n : Nat} {L : Array Bool} {a : Act} {w : World} (hi : ops[i]? = some o)
    (hs : Region.noSelect ops = true) (hf : Region.free md ops L i = true) (hr : (Region.ready md ops L).contains i = true)
    (hQ : ∀ c a w, Q (.panic c) (a.put o.dst v) w → Q (.panic c) a w) (hG : Good md ops i S) (hy : YieldsIf P ops (Still S i) o v a) (h0 : S L w)
    (h : S (L.setIfInBounds i true) w → anyL S P md ops Q n (L.setIfInBounds i true) (a.put o.dst v) w) : anyL S P md ops Q (n + 1) L a w :=
  anyL_first hi (Region.noSelect_spec hs) hQ hG n L a w (Region.free_spec hi hf) (by simpa using hr) hy h0 (h (hG.up _ _ h0))
theorem anyL_done {n : Nat} {L : Array Bool} {a : Act} {w : World} (hr : Region.ready md ops L = []) (h : Q .normal a w) : anyL S P md ops Q n L a w := by
  cases n with
  | zero => exact ⟨hr, h⟩
  | succ n => exact ⟨fun _ => h, fun k hk => by rw [hr] at hk; cases hk⟩
/-- Those that may come up now, one by one. -/
def OneOf (S : Array Bool → World → Prop) (P : Program) (md : Region.Mode) (ops : Array Oper) (Q : Exit → Act → World → Prop) (n : Nat) (L : Array Bool) (a : Act) (w : World) (rs : List Nat) : Prop :=
  ∀ k ∈ rs, wpOp P ops Q k (fun b u => S (L.setIfInBounds k true) u ∧ anyL S P md ops Q n (L.setIfInBounds k true) b u) a w
theorem OneOf.nil {n : Nat} {L : Array Bool} {a : Act} {w : World} : OneOf S P md ops Q n L a w [] := fun _ h => by cases h
theorem OneOf.cons {n : Nat} {L : Array Bool} {a : Act} {w : World} {i : Nat} {o : Oper} {rs : List Nat} (ho : ops[i]? = some o)
    (h : ∀ K : Act → World → Prop, Shut (∀ b u, S (L.setIfInBounds i true) u → (S (L.setIfInBounds i true) u → anyL S P md ops Q n (L.setIfInBounds i true) b u) → K b u) →
      if Region.wanted o (yielded ops a.tmps) = true then Oper.wp P o a w K Q else K (a.put o.dst undef) w)
    (hs : OneOf S P md ops Q n L a w rs) : OneOf S P md ops Q n L a w (i :: rs) := by
  intro k hk
  rcases List.mem_cons.1 hk with e | hk
  · subst e
    exact wpOp_step ho fun K hK => h K fun b u h1 h2 => hK b u ⟨h1, h2 h1⟩
  · exact hs k hk
theorem anyL_ready {rs : List Nat} {n : Nat} {L : Array Bool} {a : Act} {w : World} (hr : Region.ready md ops L = rs) (hne : rs ≠ [])
    (h : OneOf S P md ops Q n L a w rs) : anyL S P md ops Q (n + 1) L a w := by
  constructor
  · intro e
    exact absurd (hr.symm.trans e) hne
  · intro k hk
    exact h k (hr ▸ hk)
theorem region_L {id : Nat} {a : Act} {w : World} (hm : P.follows .mixedOrders = true) (h0 : S (Array.replicate ops.size false) w.drew)
    (h : S (Array.replicate ops.size false) w.drew → anyL S P .any ops Q ops.size (Array.replicate ops.size false) a w.drew) : (Code.region id ops true).wp P Q a w :=
  wp_region_any hm (anyL_any (h h0))
end
end Go.Proofs.Ytmfheghbgihdmaa
