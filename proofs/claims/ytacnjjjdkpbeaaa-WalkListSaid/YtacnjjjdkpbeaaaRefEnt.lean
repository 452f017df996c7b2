/- Contracts of the document's own answer on entries: EntryFault, WordOf, LeafMap. -/
import Derived.Test.YtacnjjjdkpbeaaaEnt
import Derived.Test.YtacnjjjdkpbeaaaRefPage
import Derived.Deep.RegionHeld3
namespace Go.Proofs.Ytacnjjjdkpbeaaa
open Go.RowKit
set_option maxRecDepth 100000

set_option maxHeartbeats 4000000 in
theorem entryFault_any (e : En) (l : Int) (w : World) : Calls Try.prog 99 #[.agg #[Value.bool e.there, Value.bool e.leaf, (Value.int .i64) e.rights, Value.bool e.used, Value.bool e.dirty, (Value.int .i64) e.frame], .int .i64 l] w (Pure ((Value.int .i64) (entFault e l)) w) := by
  obtain ⟨th, leaf, r, u, d, f⟩ := e
  have h1 := Has.new (has_old w) #[Value.bool th, Value.bool leaf, (Value.int .i64) r, Value.bool u, Value.bool d, (Value.int .i64) f] 59
  have bl := below_of1 h1.right ((Ext.refl w).alloc (.cells #[Value.bool th, Value.bool leaf, (Value.int .i64) r, Value.bool u, Value.bool d, (Value.int .i64) f] 59))
  have hcell := h1.cells6.2.2.2.2.2
  clear h1
  by_cases l0 : l < 0
  · have hy := Lib.hid (show entFault ⟨th, leaf, r, u, d, f⟩ l = 1 by unfold entFault; rw [if_pos (.inl l0)])
    generalize entFault ⟨th, leaf, r, u, d, f⟩ l = c at hy ⊢
    clear hcell
    go_enter Try.func99, Try.ntmps99
    go_wp2_with fail
    go_ret
    exact ⟨by rw [hy.out]; rfl, bl⟩
  by_cases l4 : 4 ≤ l
  · have hy := Lib.hid (show entFault ⟨th, leaf, r, u, d, f⟩ l = 1 by unfold entFault; rw [if_pos (.inr l4)])
    generalize entFault ⟨th, leaf, r, u, d, f⟩ l = c at hy ⊢
    clear hcell
    go_enter Try.func99, Try.ntmps99
    go_wp2_with fail
    go_ret
    exact ⟨by rw [hy.out]; rfl, bl⟩
  have hl : ¬ (l < 0 ∨ 4 ≤ l) := by omega
  cases th with
  | false =>
    by_cases hz : leaf = false ∧ r = 0 ∧ u = false ∧ d = false ∧ f = 0
    · obtain ⟨rfl, rfl, rfl, rfl, rfl⟩ := hz
      have hy := Lib.hid (show entFault ⟨false, false, 0, false, false, 0⟩ l = 0 by unfold entFault; rw [if_neg hl]; rfl)
      clear hl hcell
      go_enter Try.func99, Try.ntmps99
      go_wp2_with fail
      go_ret
      exact ⟨by rw [hy.out]; rfl, bl⟩
    · have hy := Lib.hid (show entFault ⟨false, leaf, r, u, d, f⟩ l = 7 by
        unfold entFault
        rw [if_neg hl, if_pos rfl, if_neg (fun e => hz (by unfold En.zero at e; injection e with _ a b c d e; exact ⟨a, b, c, d, e⟩))])
      clear hl hcell
      generalize entFault ⟨false, leaf, r, u, d, f⟩ l = c at hy ⊢
      cases leaf with
      | true => ((clear hz); go_enter Try.func99, Try.ntmps99; (go_wp2_with fail); go_ret; exact ⟨by rw [hy.out]; rfl, bl⟩)
      | false =>
        by_cases r0 : r = 0
        · subst r0
          cases u with
          | true => ((clear hz); go_enter Try.func99, Try.ntmps99; (go_wp2_with fail); go_ret; exact ⟨by rw [hy.out]; rfl, bl⟩)
          | false =>
            cases d with
            | true => ((clear hz); go_enter Try.func99, Try.ntmps99; (go_wp2_with fail); go_ret; exact ⟨by rw [hy.out]; rfl, bl⟩)
            | false =>
              have f0 : (f != 0) = true := by
                rw [bne_iff_ne]
                intro h
                exact hz ⟨rfl, rfl, rfl, rfl, h⟩
              ((clear hz); go_enter Try.func99, Try.ntmps99; (go_wp2_with fail); go_ret; exact ⟨by rw [hy.out]; rfl, bl⟩)
        · have r0' : (r != 0) = true := by simpa using r0
          clear r0
          ((clear hz); go_enter Try.func99, Try.ntmps99; (go_wp2_with fail); go_ret; exact ⟨by rw [hy.out]; rfl, bl⟩)
  | true =>
    have ht : ¬ ((⟨true, leaf, r, u, d, f⟩ : En).there = false) := by simp
    by_cases hb : r < 0
    · have hy := Lib.hid (show entFault ⟨true, leaf, r, u, d, f⟩ l = 1 by unfold entFault; rw [if_neg hl, if_neg ht, if_pos (.inl hb)])
      generalize entFault ⟨true, leaf, r, u, d, f⟩ l = c at hy ⊢
      clear hl ht
      go_enter Try.func99, Try.ntmps99
      go_wp2_with fail
      go_ret
      exact ⟨by rw [hy.out]; rfl, bl⟩
    by_cases hb : 7 < r
    · have hy := Lib.hid (show entFault ⟨true, leaf, r, u, d, f⟩ l = 1 by unfold entFault; rw [if_neg hl, if_neg ht, if_pos (.inr (.inl hb))])
      generalize entFault ⟨true, leaf, r, u, d, f⟩ l = c at hy ⊢
      clear hl ht
      go_enter Try.func99, Try.ntmps99
      go_wp2_with fail
      go_ret
      exact ⟨by rw [hy.out]; rfl, bl⟩
    by_cases hb : f < 0
    · have hy := Lib.hid (show entFault ⟨true, leaf, r, u, d, f⟩ l = 1 by unfold entFault; rw [if_neg hl, if_neg ht, if_pos (.inr (.inr (.inl hb)))])
      generalize entFault ⟨true, leaf, r, u, d, f⟩ l = c at hy ⊢
      clear hl ht
      go_enter Try.func99, Try.ntmps99
      go_wp2_with fail
      go_ret
      exact ⟨by rw [hy.out]; rfl, bl⟩
    by_cases hb : 1048576 ≤ f
    · have hy := Lib.hid (show entFault ⟨true, leaf, r, u, d, f⟩ l = 1 by unfold entFault; rw [if_neg hl, if_neg ht, if_pos (.inr (.inr (.inr hb)))])
      generalize entFault ⟨true, leaf, r, u, d, f⟩ l = c at hy ⊢
      clear hl ht
      go_enter Try.func99, Try.ntmps99
      go_wp2_with fail
      go_ret
      exact ⟨by rw [hy.out]; rfl, bl⟩
    have hr : ¬ (r < 0 ∨ 7 < r ∨ f < 0 ∨ 1048576 ≤ f) := by omega
    have d1 : decide (r < 0) = false := by simp; omega
    have d2 : decide (7 < r) = false := by simp; omega
    have d3 : decide (f < 0) = false := by simp; omega
    have d4 : decide (1048576 ≤ f) = false := by simp; omega
    cases leaf with
    | false =>
      by_cases lz : l = 0
      · subst lz
        have hy := Lib.hid (show entFault ⟨true, false, r, u, d, f⟩ 0 = 2 by
          unfold entFault
          rw [if_neg hl, if_neg ht, if_neg hr, if_pos (.inr ⟨rfl, rfl⟩)])
        generalize entFault ⟨true, false, r, u, d, f⟩ 0 = c at hy ⊢
        clear hl ht hr hcell
        go_enter Try.func99, Try.ntmps99
        go_wp2_with fail
        go_ret
        exact ⟨by rw [hy.out]; rfl, bl⟩
      have hk : ¬ ((false = true ∧ l = 3) ∨ (false = false ∧ l = 0)) := by simp [lz]
      have lz' : (l == 0) = false := by simpa using lz
      by_cases hx : r ≠ 7 ∨ u = true ∨ d = true
      · have hy := Lib.hid (show entFault ⟨true, false, r, u, d, f⟩ l = 7 by
          unfold entFault
          rw [if_neg hl, if_neg ht, if_neg hr, if_neg hk, if_pos rfl, if_pos hx])
        clear hl ht hr hk hcell
        generalize entFault ⟨true, false, r, u, d, f⟩ l = c at hy ⊢
        by_cases r7 : r = 7
        · cases u with
          | true =>
            subst r7
            clear hx
            go_enter Try.func99, Try.ntmps99
            go_wp2_with fail
            go_ret
            exact ⟨by rw [hy.out]; rfl, bl⟩
          | false =>
            obtain rfl : d = true := by rcases hx with hx | hx | hx; exact absurd r7 hx; cases hx; exact hx
            subst r7
            clear hx
            go_enter Try.func99, Try.ntmps99
            go_wp2_with fail
            go_ret
            exact ⟨by rw [hy.out]; rfl, bl⟩
        · have r7' : (r != 7) = true := by simpa using r7
          clear hx r7
          go_enter Try.func99, Try.ntmps99
          go_wp2_with fail
          go_ret
          exact ⟨by rw [hy.out]; rfl, bl⟩
      · obtain ⟨rfl, rfl, rfl⟩ : r = 7 ∧ u = false ∧ d = false := by
          refine ⟨?_, ?_, ?_⟩
          · exact Decidable.of_not_not fun h => hx (.inl h)
          · cases u with
            | false => rfl
            | true => exact absurd (.inr (.inl rfl)) hx
          · cases d with
            | false => rfl
            | true => exact absurd (.inr (.inr rfl)) hx
        have hy := Lib.hid (show entFault ⟨true, false, 7, false, false, f⟩ l = 0 by
          unfold entFault
          rw [if_neg hl, if_neg ht, if_neg hr, if_neg hk, if_pos rfl, if_neg hx])
        generalize entFault ⟨true, false, 7, false, false, f⟩ l = c at hy ⊢
        clear hl ht hr hk hx lz hcell
        go_enter Try.func99, Try.ntmps99
        go_wp2_with fail
        go_ret
        exact ⟨by rw [hy.out]; rfl, bl⟩
    | true =>
      by_cases l3 : l = 3
      · subst l3
        have hy := Lib.hid (show entFault ⟨true, true, r, u, d, f⟩ 3 = 2 by
          unfold entFault
          rw [if_neg hl, if_neg ht, if_neg hr, if_pos (.inl ⟨rfl, rfl⟩)])
        generalize entFault ⟨true, true, r, u, d, f⟩ 3 = c at hy ⊢
        clear hl ht hr hcell
        go_enter Try.func99, Try.ntmps99
        go_wp2_with fail
        go_ret
        exact ⟨by rw [hy.out]; rfl, bl⟩
      have hk : ¬ ((true = true ∧ l = 3) ∨ (true = false ∧ l = 0)) := by simp [l3]
      have hsp : entFault ⟨true, true, r, u, d, f⟩ l = if f % span l ≠ 0 then 3 else 0 := by
        unfold entFault
        rw [if_neg hl, if_neg ht, if_neg hr, if_neg hk, if_neg (by simp)]
      have hl3 : l = 0 ∨ l = 1 ∨ l = 2 := by omega
      clear hk l3
      rcases hl3 with rfl | rfl | rfl
      · skip
        have hs : span 0 = 1 := rfl
        have HS := Lib.hid (fun W => spanOf_any 0 W)
        rw [hs] at HS hsp
        have c5 := hcell
        have v5 := via_cell c5
        by_cases hm : f % 1 = 0
        · have hy := Lib.hid (show entFault ⟨true, true, r, u, d, f⟩ 0 = 0 by rw [hsp, if_neg (fun h => h hm)])
          have hm' : (f.tmod 1 != 0) = false := by rw [Int.tmod_eq_emod_of_nonneg (by omega)]; rw [bne_eq_false_iff_eq]; exact hm
          have hm2 : (f % 1 != 0) = false := by rw [bne_eq_false_iff_eq]; exact hm
          generalize entFault ⟨true, true, r, u, d, f⟩ 0 = c at hy ⊢
          clear hl hsp hm hs ht hr
          go_enter Try.func99, Try.ntmps99
          go_wp2_with fail
          refine wp_region_via (by kernel_rfl) (by kernel_rfl) ?_
          repeat (first | go_big_quiet_step ((go_at_call 83; exact Same.via (HS.out _))) | quiet_step ((go_at_call 83; exact Same.via (HS.out _))))
          refine wpQuiet_nil ?_
          intro _ hw'
          obtain ⟨uq, hw''⟩ := hw'
          subst hw''
          go_wp2
          go_ret
          exact ⟨by rw [hy.out]; rfl, bl.trans ((via_below _ _).mono (by simp))⟩
        · exact absurd (Int.emod_one f) hm
      · skip
        have hs : span 1 = 8 := rfl
        have HS := Lib.hid (fun W => spanOf_any 1 W)
        rw [hs] at HS hsp
        have c5 := hcell
        have v5 := via_cell c5
        by_cases hm : f % 8 = 0
        · have hy := Lib.hid (show entFault ⟨true, true, r, u, d, f⟩ 1 = 0 by rw [hsp, if_neg (fun h => h hm)])
          have hm' : (f.tmod 8 != 0) = false := by rw [Int.tmod_eq_emod_of_nonneg (by omega)]; rw [bne_eq_false_iff_eq]; exact hm
          have hm2 : (f % 8 != 0) = false := by rw [bne_eq_false_iff_eq]; exact hm
          generalize entFault ⟨true, true, r, u, d, f⟩ 1 = c at hy ⊢
          clear hl hsp hm hs ht hr
          go_enter Try.func99, Try.ntmps99
          go_wp2_with fail
          refine wp_region_via (by kernel_rfl) (by kernel_rfl) ?_
          repeat (first | go_big_quiet_step ((go_at_call 83; exact Same.via (HS.out _))) | quiet_step ((go_at_call 83; exact Same.via (HS.out _))))
          refine wpQuiet_nil ?_
          intro _ hw'
          obtain ⟨uq, hw''⟩ := hw'
          subst hw''
          go_wp2
          go_ret
          exact ⟨by rw [hy.out]; rfl, bl.trans ((via_below _ _).mono (by simp))⟩
        · have hy := Lib.hid (show entFault ⟨true, true, r, u, d, f⟩ 1 = 3 by rw [hsp, if_pos hm])
          have hm' : (f.tmod 8 != 0) = true := by rw [Int.tmod_eq_emod_of_nonneg (by omega)]; rw [bne_iff_ne]; exact hm
          have hm2 : (f % 8 != 0) = true := by rw [bne_iff_ne]; exact hm
          generalize entFault ⟨true, true, r, u, d, f⟩ 1 = c at hy ⊢
          clear hl hsp hm hs ht hr
          go_enter Try.func99, Try.ntmps99
          go_wp2_with fail
          refine wp_region_via (by kernel_rfl) (by kernel_rfl) ?_
          repeat (first | go_big_quiet_step ((go_at_call 83; exact Same.via (HS.out _))) | quiet_step ((go_at_call 83; exact Same.via (HS.out _))))
          refine wpQuiet_nil ?_
          intro _ hw'
          obtain ⟨uq, hw''⟩ := hw'
          subst hw''
          go_wp2
          go_ret
          exact ⟨by rw [hy.out]; rfl, bl.trans ((via_below _ _).mono (by simp))⟩
      · skip
        have hs : span 2 = 64 := rfl
        have HS := Lib.hid (fun W => spanOf_any 2 W)
        rw [hs] at HS hsp
        have c5 := hcell
        have v5 := via_cell c5
        by_cases hm : f % 64 = 0
        · have hy := Lib.hid (show entFault ⟨true, true, r, u, d, f⟩ 2 = 0 by rw [hsp, if_neg (fun h => h hm)])
          have hm' : (f.tmod 64 != 0) = false := by rw [Int.tmod_eq_emod_of_nonneg (by omega)]; rw [bne_eq_false_iff_eq]; exact hm
          have hm2 : (f % 64 != 0) = false := by rw [bne_eq_false_iff_eq]; exact hm
          generalize entFault ⟨true, true, r, u, d, f⟩ 2 = c at hy ⊢
          clear hl hsp hm hs ht hr
          go_enter Try.func99, Try.ntmps99
          go_wp2_with fail
          refine wp_region_via (by kernel_rfl) (by kernel_rfl) ?_
          repeat (first | go_big_quiet_step ((go_at_call 83; exact Same.via (HS.out _))) | quiet_step ((go_at_call 83; exact Same.via (HS.out _))))
          refine wpQuiet_nil ?_
          intro _ hw'
          obtain ⟨uq, hw''⟩ := hw'
          subst hw''
          go_wp2
          go_ret
          exact ⟨by rw [hy.out]; rfl, bl.trans ((via_below _ _).mono (by simp))⟩
        · have hy := Lib.hid (show entFault ⟨true, true, r, u, d, f⟩ 2 = 3 by rw [hsp, if_pos hm])
          have hm' : (f.tmod 64 != 0) = true := by rw [Int.tmod_eq_emod_of_nonneg (by omega)]; rw [bne_iff_ne]; exact hm
          have hm2 : (f % 64 != 0) = true := by rw [bne_iff_ne]; exact hm
          generalize entFault ⟨true, true, r, u, d, f⟩ 2 = c at hy ⊢
          clear hl hsp hm hs ht hr
          go_enter Try.func99, Try.ntmps99
          go_wp2_with fail
          refine wp_region_via (by kernel_rfl) (by kernel_rfl) ?_
          repeat (first | go_big_quiet_step ((go_at_call 83; exact Same.via (HS.out _))) | quiet_step ((go_at_call 83; exact Same.via (HS.out _))))
          refine wpQuiet_nil ?_
          intro _ hw'
          obtain ⟨uq, hw''⟩ := hw'
          subst hw''
          go_wp2
          go_ret
          exact ⟨by rw [hy.out]; rfl, bl.trans ((via_below _ _).mono (by simp))⟩
end Go.Proofs.Ytacnjjjdkpbeaaa
