/- Contracts of the document's own answer on entries: EntryFault, WordOf, LeafMap. -/
import Derived.Test.YtndhgomikpokpaaEnt
import Derived.Test.YtndhgomikpokpaaRefPage
import Derived.Deep.RegionHeld3
import Derived.Test.YtndhgomikpokpaaEntBits
import Derived.Test.YtndhgomikpokpaaDecV
import Derived.Deep.LoopGhost
namespace Go.Proofs.Ytndhgomikpokpaa
open Go.RowKit
set_option maxRecDepth 100000

set_option maxHeartbeats 4000000 in
theorem entryFault_any (e : En) (l : Int) (w : World) : Calls Try.prog 110 #[.agg #[Value.bool e.there, Value.bool e.leaf, (Value.int .i64) e.rights, Value.bool e.used, Value.bool e.dirty, (Value.int .i64) e.frame], .int .i64 l] w (Pure ((Value.int .i64) (entFault e l)) w) := by
  obtain ⟨th, leaf, r, u, d, f⟩ := e
  have h1 := Has.new (has_old w) #[Value.bool th, Value.bool leaf, (Value.int .i64) r, Value.bool u, Value.bool d, (Value.int .i64) f] 58
  have bl := below_of1 h1.right ((Ext.refl w).alloc (.cells #[Value.bool th, Value.bool leaf, (Value.int .i64) r, Value.bool u, Value.bool d, (Value.int .i64) f] 58))
  have hcell := h1.cells6.2.2.2.2.2
  clear h1
  by_cases l0 : l < 0
  · have hy := Lib.hid (show entFault ⟨th, leaf, r, u, d, f⟩ l = 1 by unfold entFault; rw [if_pos (.inl l0)])
    generalize entFault ⟨th, leaf, r, u, d, f⟩ l = c at hy ⊢
    clear hcell
    go_enter Try.func110, Try.ntmps110
    go_wp2_with fail
    go_ret
    exact ⟨by rw [hy.out]; rfl, bl⟩
  by_cases l4 : 4 ≤ l
  · have hy := Lib.hid (show entFault ⟨th, leaf, r, u, d, f⟩ l = 1 by unfold entFault; rw [if_pos (.inr l4)])
    generalize entFault ⟨th, leaf, r, u, d, f⟩ l = c at hy ⊢
    clear hcell
    go_enter Try.func110, Try.ntmps110
    go_wp2_with fail
    go_ret
    exact ⟨by rw [hy.out]; rfl, bl⟩
  have hl : ¬ (l < 0 ∨ 4 ≤ l) := by omega
  cases th with
  | false =>
    by_cases hz : leaf = false ∧ r = 0 ∧ u = false ∧ d = false ∧ f = 0
    · obtain ⟨rfl, rfl, rfl, rfl, rfl⟩ := hz
      have hy := Lib.hid (show entFault ⟨false, false, 0, false, false, 0⟩ l = 0 by unfold entFault; rw [if_neg hl]; rfl)
      clear hl hcell
      go_enter Try.func110, Try.ntmps110
      go_wp2_with fail
      go_ret
      exact ⟨by rw [hy.out]; rfl, bl⟩
    · have hy := Lib.hid (show entFault ⟨false, leaf, r, u, d, f⟩ l = 7 by
        unfold entFault
        rw [if_neg hl, if_pos rfl, if_neg (fun e => hz (by unfold En.zero at e; injection e with _ a b c d e; exact ⟨a, b, c, d, e⟩))])
      clear hl hcell
      generalize entFault ⟨false, leaf, r, u, d, f⟩ l = c at hy ⊢
      cases leaf with
      | true => ((clear hz); go_enter Try.func110, Try.ntmps110; (go_wp2_with fail); go_ret; exact ⟨by rw [hy.out]; rfl, bl⟩)
      | false =>
        by_cases r0 : r = 0
        · subst r0
          cases u with
          | true => ((clear hz); go_enter Try.func110, Try.ntmps110; (go_wp2_with fail); go_ret; exact ⟨by rw [hy.out]; rfl, bl⟩)
          | false =>
            cases d with
            | true => ((clear hz); go_enter Try.func110, Try.ntmps110; (go_wp2_with fail); go_ret; exact ⟨by rw [hy.out]; rfl, bl⟩)
            | false =>
              have f0 : (f != 0) = true := by
                rw [bne_iff_ne]
                intro h
                exact hz ⟨rfl, rfl, rfl, rfl, h⟩
              ((clear hz); go_enter Try.func110, Try.ntmps110; (go_wp2_with fail); go_ret; exact ⟨by rw [hy.out]; rfl, bl⟩)
        · have r0' : (r != 0) = true := by simpa using r0
          clear r0
          ((clear hz); go_enter Try.func110, Try.ntmps110; (go_wp2_with fail); go_ret; exact ⟨by rw [hy.out]; rfl, bl⟩)
  | true =>
    have ht : ¬ ((⟨true, leaf, r, u, d, f⟩ : En).there = false) := by simp
    by_cases hb : r < 0
    · have hy := Lib.hid (show entFault ⟨true, leaf, r, u, d, f⟩ l = 1 by unfold entFault; rw [if_neg hl, if_neg ht, if_pos (.inl hb)])
      generalize entFault ⟨true, leaf, r, u, d, f⟩ l = c at hy ⊢
      clear hl ht
      go_enter Try.func110, Try.ntmps110
      go_wp2_with fail
      go_ret
      exact ⟨by rw [hy.out]; rfl, bl⟩
    by_cases hb : 7 < r
    · have hy := Lib.hid (show entFault ⟨true, leaf, r, u, d, f⟩ l = 1 by unfold entFault; rw [if_neg hl, if_neg ht, if_pos (.inr (.inl hb))])
      generalize entFault ⟨true, leaf, r, u, d, f⟩ l = c at hy ⊢
      clear hl ht
      go_enter Try.func110, Try.ntmps110
      go_wp2_with fail
      go_ret
      exact ⟨by rw [hy.out]; rfl, bl⟩
    by_cases hb : f < 0
    · have hy := Lib.hid (show entFault ⟨true, leaf, r, u, d, f⟩ l = 1 by unfold entFault; rw [if_neg hl, if_neg ht, if_pos (.inr (.inr (.inl hb)))])
      generalize entFault ⟨true, leaf, r, u, d, f⟩ l = c at hy ⊢
      clear hl ht
      go_enter Try.func110, Try.ntmps110
      go_wp2_with fail
      go_ret
      exact ⟨by rw [hy.out]; rfl, bl⟩
    by_cases hb : 1048576 ≤ f
    · have hy := Lib.hid (show entFault ⟨true, leaf, r, u, d, f⟩ l = 1 by unfold entFault; rw [if_neg hl, if_neg ht, if_pos (.inr (.inr (.inr hb)))])
      generalize entFault ⟨true, leaf, r, u, d, f⟩ l = c at hy ⊢
      clear hl ht
      go_enter Try.func110, Try.ntmps110
      go_wp2_with fail
      go_ret
      exact ⟨by rw [hy.out]; rfl, bl⟩
    have hr : ¬ (r < 0 ∨ 7 < r ∨ f < 0 ∨ 1048576 ≤ f) := by omega
    have d1 : decide (r < 0) = false := by simp; omega
    have d2 : decide (7 < r) = false := by simp; omega
    have d3 : decide (f < 0) = false := by simp; omega
    have d4 : decide (1048576 ≤ f) = false := by simp; omega
    cases leaf with
    | false =>
      by_cases lz : l = 0
      · subst lz
        have hy := Lib.hid (show entFault ⟨true, false, r, u, d, f⟩ 0 = 2 by
          unfold entFault
          rw [if_neg hl, if_neg ht, if_neg hr, if_pos (.inr ⟨rfl, rfl⟩)])
        generalize entFault ⟨true, false, r, u, d, f⟩ 0 = c at hy ⊢
        clear hl ht hr hcell
        go_enter Try.func110, Try.ntmps110
        go_wp2_with fail
        go_ret
        exact ⟨by rw [hy.out]; rfl, bl⟩
      have hk : ¬ ((false = true ∧ l = 3) ∨ (false = false ∧ l = 0)) := by simp [lz]
      have lz' : (l == 0) = false := by simpa using lz
      by_cases hx : r ≠ 7 ∨ u = true ∨ d = true
      · have hy := Lib.hid (show entFault ⟨true, false, r, u, d, f⟩ l = 7 by
          unfold entFault
          rw [if_neg hl, if_neg ht, if_neg hr, if_neg hk, if_pos rfl, if_pos hx])
        clear hl ht hr hk hcell
        generalize entFault ⟨true, false, r, u, d, f⟩ l = c at hy ⊢
        by_cases r7 : r = 7
        · cases u with
          | true =>
            subst r7
            clear hx
            go_enter Try.func110, Try.ntmps110
            go_wp2_with fail
            go_ret
            exact ⟨by rw [hy.out]; rfl, bl⟩
          | false =>
            obtain rfl : d = true := by rcases hx with hx | hx | hx; exact absurd r7 hx; cases hx; exact hx
            subst r7
            clear hx
            go_enter Try.func110, Try.ntmps110
            go_wp2_with fail
            go_ret
            exact ⟨by rw [hy.out]; rfl, bl⟩
        · have r7' : (r != 7) = true := by simpa using r7
          clear hx r7
          go_enter Try.func110, Try.ntmps110
          go_wp2_with fail
          go_ret
          exact ⟨by rw [hy.out]; rfl, bl⟩
      · obtain ⟨rfl, rfl, rfl⟩ : r = 7 ∧ u = false ∧ d = false := by
          refine ⟨?_, ?_, ?_⟩
          · exact Decidable.of_not_not fun h => hx (.inl h)
          · cases u with
            | false => rfl
            | true => exact absurd (.inr (.inl rfl)) hx
          · cases d with
            | false => rfl
            | true => exact absurd (.inr (.inr rfl)) hx
        have hy := Lib.hid (show entFault ⟨true, false, 7, false, false, f⟩ l = 0 by
          unfold entFault
          rw [if_neg hl, if_neg ht, if_neg hr, if_neg hk, if_pos rfl, if_neg hx])
        generalize entFault ⟨true, false, 7, false, false, f⟩ l = c at hy ⊢
        clear hl ht hr hk hx lz hcell
        go_enter Try.func110, Try.ntmps110
        go_wp2_with fail
        go_ret
        exact ⟨by rw [hy.out]; rfl, bl⟩
    | true =>
      by_cases l3 : l = 3
      · subst l3
        have hy := Lib.hid (show entFault ⟨true, true, r, u, d, f⟩ 3 = 2 by
          unfold entFault
          rw [if_neg hl, if_neg ht, if_neg hr, if_pos (.inl ⟨rfl, rfl⟩)])
        generalize entFault ⟨true, true, r, u, d, f⟩ 3 = c at hy ⊢
        clear hl ht hr hcell
        go_enter Try.func110, Try.ntmps110
        go_wp2_with fail
        go_ret
        exact ⟨by rw [hy.out]; rfl, bl⟩
      have hk : ¬ ((true = true ∧ l = 3) ∨ (true = false ∧ l = 0)) := by simp [l3]
      have hsp : entFault ⟨true, true, r, u, d, f⟩ l = if f % span l ≠ 0 then 3 else 0 := by
        unfold entFault
        rw [if_neg hl, if_neg ht, if_neg hr, if_neg hk, if_neg (by simp)]
      have hl3 : l = 0 ∨ l = 1 ∨ l = 2 := by omega
      clear hk l3
      rcases hl3 with rfl | rfl | rfl
      · skip
        have hs : span 0 = 1 := rfl
        have HS := Lib.hid (fun W => spanOf_any 0 W)
        rw [hs] at HS hsp
        have c5 := hcell
        have v5 := via_cell c5
        by_cases hm : f % 1 = 0
        · have hy := Lib.hid (show entFault ⟨true, true, r, u, d, f⟩ 0 = 0 by rw [hsp, if_neg (fun h => h hm)])
          have hm' : (f.tmod 1 != 0) = false := by rw [Int.tmod_eq_emod_of_nonneg (by omega)]; rw [bne_eq_false_iff_eq]; exact hm
          have hm2 : (f % 1 != 0) = false := by rw [bne_eq_false_iff_eq]; exact hm
          generalize entFault ⟨true, true, r, u, d, f⟩ 0 = c at hy ⊢
          clear hl hsp hm hs ht hr
          go_enter Try.func110, Try.ntmps110
          go_wp2_with fail
          refine wp_region_via (by kernel_rfl) (by kernel_rfl) ?_
          repeat (first | go_big_quiet_step ((go_at_call 111; exact Same.via (HS.out _))) | quiet_step ((go_at_call 111; exact Same.via (HS.out _))))
          refine wpQuiet_nil ?_
          intro _ hw'
          obtain ⟨uq, hw''⟩ := hw'
          subst hw''
          go_wp2
          go_ret
          exact ⟨by rw [hy.out]; rfl, bl.trans ((via_below _ _).mono (by simp))⟩
        · exact absurd (Int.emod_one f) hm
      · skip
        have hs : span 1 = 8 := rfl
        have HS := Lib.hid (fun W => spanOf_any 1 W)
        rw [hs] at HS hsp
        have c5 := hcell
        have v5 := via_cell c5
        by_cases hm : f % 8 = 0
        · have hy := Lib.hid (show entFault ⟨true, true, r, u, d, f⟩ 1 = 0 by rw [hsp, if_neg (fun h => h hm)])
          have hm' : (f.tmod 8 != 0) = false := by rw [Int.tmod_eq_emod_of_nonneg (by omega)]; rw [bne_eq_false_iff_eq]; exact hm
          have hm2 : (f % 8 != 0) = false := by rw [bne_eq_false_iff_eq]; exact hm
          generalize entFault ⟨true, true, r, u, d, f⟩ 1 = c at hy ⊢
          clear hl hsp hm hs ht hr
          go_enter Try.func110, Try.ntmps110
          go_wp2_with fail
          refine wp_region_via (by kernel_rfl) (by kernel_rfl) ?_
          repeat (first | go_big_quiet_step ((go_at_call 111; exact Same.via (HS.out _))) | quiet_step ((go_at_call 111; exact Same.via (HS.out _))))
          refine wpQuiet_nil ?_
          intro _ hw'
          obtain ⟨uq, hw''⟩ := hw'
          subst hw''
          go_wp2
          go_ret
          exact ⟨by rw [hy.out]; rfl, bl.trans ((via_below _ _).mono (by simp))⟩
        · have hy := Lib.hid (show entFault ⟨true, true, r, u, d, f⟩ 1 = 3 by rw [hsp, if_pos hm])
          have hm' : (f.tmod 8 != 0) = true := by rw [Int.tmod_eq_emod_of_nonneg (by omega)]; rw [bne_iff_ne]; exact hm
          have hm2 : (f % 8 != 0) = true := by rw [bne_iff_ne]; exact hm
          generalize entFault ⟨true, true, r, u, d, f⟩ 1 = c at hy ⊢
          clear hl hsp hm hs ht hr
          go_enter Try.func110, Try.ntmps110
          go_wp2_with fail
          refine wp_region_via (by kernel_rfl) (by kernel_rfl) ?_
          repeat (first | go_big_quiet_step ((go_at_call 111; exact Same.via (HS.out _))) | quiet_step ((go_at_call 111; exact Same.via (HS.out _))))
          refine wpQuiet_nil ?_
          intro _ hw'
          obtain ⟨uq, hw''⟩ := hw'
          subst hw''
          go_wp2
          go_ret
          exact ⟨by rw [hy.out]; rfl, bl.trans ((via_below _ _).mono (by simp))⟩
      · skip
        have hs : span 2 = 64 := rfl
        have HS := Lib.hid (fun W => spanOf_any 2 W)
        rw [hs] at HS hsp
        have c5 := hcell
        have v5 := via_cell c5
        by_cases hm : f % 64 = 0
        · have hy := Lib.hid (show entFault ⟨true, true, r, u, d, f⟩ 2 = 0 by rw [hsp, if_neg (fun h => h hm)])
          have hm' : (f.tmod 64 != 0) = false := by rw [Int.tmod_eq_emod_of_nonneg (by omega)]; rw [bne_eq_false_iff_eq]; exact hm
          have hm2 : (f % 64 != 0) = false := by rw [bne_eq_false_iff_eq]; exact hm
          generalize entFault ⟨true, true, r, u, d, f⟩ 2 = c at hy ⊢
          clear hl hsp hm hs ht hr
          go_enter Try.func110, Try.ntmps110
          go_wp2_with fail
          refine wp_region_via (by kernel_rfl) (by kernel_rfl) ?_
          repeat (first | go_big_quiet_step ((go_at_call 111; exact Same.via (HS.out _))) | quiet_step ((go_at_call 111; exact Same.via (HS.out _))))
          refine wpQuiet_nil ?_
          intro _ hw'
          obtain ⟨uq, hw''⟩ := hw'
          subst hw''
          go_wp2
          go_ret
          exact ⟨by rw [hy.out]; rfl, bl.trans ((via_below _ _).mono (by simp))⟩
        · have hy := Lib.hid (show entFault ⟨true, true, r, u, d, f⟩ 2 = 3 by rw [hsp, if_pos hm])
          have hm' : (f.tmod 64 != 0) = true := by rw [Int.tmod_eq_emod_of_nonneg (by omega)]; rw [bne_iff_ne]; exact hm
          have hm2 : (f % 64 != 0) = true := by rw [bne_iff_ne]; exact hm
          generalize entFault ⟨true, true, r, u, d, f⟩ 2 = c at hy ⊢
          clear hl hsp hm hs ht hr
          go_enter Try.func110, Try.ntmps110
          go_wp2_with fail
          refine wp_region_via (by kernel_rfl) (by kernel_rfl) ?_
          repeat (first | go_big_quiet_step ((go_at_call 111; exact Same.via (HS.out _))) | quiet_step ((go_at_call 111; exact Same.via (HS.out _))))
          refine wpQuiet_nil ?_
          intro _ hw'
          obtain ⟨uq, hw''⟩ := hw'
          subst hw''
          go_wp2
          go_ret
          exact ⟨by rw [hy.out]; rfl, bl.trans ((via_below _ _).mono (by simp))⟩
end Go.Proofs.Ytndhgomikpokpaa

namespace Go.Proofs.Ytndhgomikpokpaa
open Go.RowKit
set_option maxRecDepth 100000

set_option maxHeartbeats 2000000 in
theorem wordOf_any (e : En) (l : Int) (w : World) : Calls Try.prog 30 #[.agg #[Value.bool e.there, Value.bool e.leaf, (Value.int .i64) e.rights, Value.bool e.used, Value.bool e.dirty, (Value.int .i64) e.frame], .int .i64 l] w (Pure (.tuple #[(Value.int .u64) (encW e l), (Value.int .i64) (entFault e l)]) w) := by
  obtain ⟨th, leaf, r, u, d, f⟩ := e
  have h1 := Has.new (has_old w) #[Value.bool th, Value.bool leaf, (Value.int .i64) r, Value.bool u, Value.bool d, (Value.int .i64) f] 58
  have x1 := (Ext.refl w).alloc (.cells #[Value.bool th, Value.bool leaf, (Value.int .i64) r, Value.bool u, Value.bool d, (Value.int .i64) f] 58)
  have HC := Lib.hid (fun W => entryFault_any ⟨th, leaf, r, u, d, f⟩ l W)
  by_cases hc : entFault ⟨th, leaf, r, u, d, f⟩ l = 0
  · rw [hc] at HC ⊢
    cases th with
    | false =>
      have hy := Lib.hid (show encW ⟨false, leaf, r, u, d, f⟩ l = 0 by unfold encW; rw [if_neg (by simp)])
      clear hc
      go_enter Try.func30, Try.ntmps30
      go_wp2_with fail
      refine (HC.out _).mono ?_; rintro e w2 ⟨rfl, bl⟩
      have h2 := h1.below bl
      obtain ⟨c0, c1, c2, c3, c4, c5⟩ := h2.cells6
      go_wp2
      go_ret2
      exact ⟨by rw [hy.out]; rfl, below_of1 h2.right (x1.below bl)⟩
    | true =>
      have hk := entOk_of hc rfl
      have hy := Lib.hid (show encW ⟨true, leaf, r, u, d, f⟩ l = wordE ⟨true, leaf, r, u, d, f⟩ l by unfold encW; rw [if_pos ⟨hc, rfl⟩])
      have r0 : 0 ≤ r := hk.r0
      have r7 : r ≤ 7 := hk.r7
      have f0 : 0 ≤ f := hk.f0
      have f1 : f < 1048576 := hk.f1
      have l0 := hk.l0
      have l4 := hk.l4
      clear hc hk
      by_cases lz : l = 0
      · subst lz
        cases leaf <;> cases u <;> cases d
        all_goals
          go_enter Try.func30, Try.ntmps30
          go_wp2_with fail
          refine (HC.out _).mono ?_; rintro e w2 ⟨rfl, bl⟩
          have h2 := h1.below bl
          obtain ⟨c0, c1, c2, c3, c4, c5⟩ := h2.cells6
          have b2 := below_of1 h2.right (x1.below bl)
          clear h1 x1 h2 bl HC
          go_wp2
          go_ret2
          refine ⟨?_, b2⟩
          rw [hy.out]
          show Ending.returned (.tuple #[(Value.int .u64) _, (Value.int .i64) 0]) = _
          refine congrArg (fun n : Int => Ending.returned (.tuple #[(Value.int .u64) n, (Value.int .i64) 0])) ?_
          unfold wordE
          simp [b2i]; try omega
      · have hz : (l != 0) = true := by simpa using lz
        have hz' := Lib.hid hz
        clear lz
        cases leaf <;> cases u <;> cases d
        all_goals
          go_enter Try.func30, Try.ntmps30
          go_wp2_with fail
          refine (HC.out _).mono ?_; rintro e w2 ⟨rfl, bl⟩
          have h2 := h1.below bl
          obtain ⟨c0, c1, c2, c3, c4, c5⟩ := h2.cells6
          have b2 := below_of1 h2.right (x1.below bl)
          clear h1 x1 h2 bl HC
          go_wp2
          go_ret2
          refine ⟨?_, b2⟩
          rw [hy.out]
          show Ending.returned (.tuple #[(Value.int .u64) _, (Value.int .i64) 0]) = _
          refine congrArg (fun n : Int => Ending.returned (.tuple #[(Value.int .u64) n, (Value.int .i64) 0])) ?_
          unfold wordE
          simp [b2i, hz'.out]; try omega
  · have hy := Lib.hid (show encW ⟨th, leaf, r, u, d, f⟩ l = 0 from encW_fault hc)
    have hn : (entFault ⟨th, leaf, r, u, d, f⟩ l != 0) = true := by simpa using hc
    clear hc
    generalize entFault ⟨th, leaf, r, u, d, f⟩ l = c at *
    go_enter Try.func30, Try.ntmps30
    go_wp2_with fail
    refine (HC.out _).mono ?_; rintro e w2 ⟨rfl, bl⟩
    have h2 := h1.below bl
    go_wp2
    go_ret2
    exact ⟨by rw [hy.out]; rfl, below_of1 h2.right (x1.below bl)⟩
end Go.Proofs.Ytndhgomikpokpaa

namespace Go.Proofs.Ytndhgomikpokpaa
open Go.RowKit
set_option maxRecDepth 100000

def knownB (k : Nat) : Bool := decide (k ≤ 3) || (decide (5 ≤ k) && decide (k ≤ 7)) || (decide (12 ≤ k) && decide (k ≤ 31))
/-- Is that bit one that may not be? -/
def badB (w l : Int) (k : Nat) : Bool := bitOf w ((2 ^ k : Nat) : Int) && (!knownB k || !bitOf w 1 || (decide (k = 7) && decide (l = 0)))
theorem bitOf_nat (n k : Nat) : bitOf (n : Int) ((2 ^ k : Nat) : Int) = n.testBit k := by
  unfold bitOf
  rw [Nat.testBit_eq_decide_div_mod_eq, ← Int.natCast_ediv]
  by_cases h : n / 2 ^ k % 2 = 1
  · have : ((n / 2 ^ k : Nat) : Int) % 2 = 1 := by omega
    rw [decide_eq_true h, decide_eq_true this]
  · have : ¬ ((n / 2 ^ k : Nat) : Int) % 2 = 1 := by omega
    rw [decide_eq_false h, decide_eq_false this]
theorem badB_no {w l : Int} (h0 : 0 ≤ w) (h1 : w < 18446744073709551616) (h : ∀ k, k < 64 → badB w l k = false) : bitsOk w l := by
  obtain ⟨n, rfl⟩ := Int.eq_ofNat_of_zero_le h0
  have hb : ∀ k, k < 64 → n.testBit k = true → knownB k = true ∧ bitOf (n : Int) 1 = true ∧ ¬ (k = 7 ∧ l = 0) := fun k hk ht => by
    have := h k hk
    unfold badB at this
    rw [bitOf_nat, ht] at this
    cases hkn : knownB k <;> cases hb1 : bitOf (n : Int) 1 <;> rw [hkn, hb1] at this <;> simp at this ⊢
    exact this
  have hz : ∀ k, k < 64 → knownB k = false → n / 2 ^ k % 2 = 0 := fun k hk hkn => by
    cases ht : n.testBit k with
    | true => have := (hb k hk ht).1; rw [hkn] at this; cases this
    | false =>
      rw [Nat.testBit_eq_decide_div_mod_eq] at ht
      simp at ht
      omega
  have z4 := hz 4 (by omega) rfl
  have z8 := hz 8 (by omega) rfl
  have z9 := hz 9 (by omega) rfl
  have z10 := hz 10 (by omega) rfl
  have z11 := hz 11 (by omega) rfl
  simp only [Nat.reducePow] at z4 z8 z9 z10 z11
  have h1' : n < 2 ^ 64 := by
    have : (2 ^ 64 : Nat) = 18446744073709551616 := by decide
    omega
  have hlt : ∀ k, n.testBit k = true → k < 64 := fun k ht => by
    refine Decidable.byContradiction fun hk => ?_
    rw [Nat.testBit_lt_two_pow (Nat.lt_of_lt_of_le h1' (Nat.pow_le_pow_right (by omega) (by omega)))] at ht
    cases ht
  refine ⟨by omega, by omega, ?_, ?_, fun e => ?_⟩
  · refine Decidable.byContradiction fun hc => ?_
    have hge : n ≥ 2 ^ 32 := by
      have : (2 ^ 32 : Nat) = 4294967296 := by decide
      omega
    obtain ⟨i, hi, ht⟩ := Nat.exists_ge_and_testBit_of_ge_two_pow hge
    have hi64 := hlt i ht
    have := (hb i hi64 ht).1
    unfold knownB at this
    simp at this
    omega
  · by_cases hn : n = 0
    · left; omega
    · right
      obtain ⟨i, ht⟩ := Nat.exists_testBit_of_ne_zero hn
      have := (hb i (hlt i ht) ht).2.1
      unfold bitOf at this
      simp at this
      omega
  · cases ht : n.testBit 7 with
    | true => exact absurd ⟨rfl, e⟩ (hb 7 (by omega) ht).2.2
    | false =>
      rw [Nat.testBit_eq_decide_div_mod_eq] at ht
      simp at ht
      omega
theorem badB_yes {w l : Int} {k : Nat} (h0 : 0 ≤ w) (hk : k < 64) (h : badB w l k = true) : ¬ bitsOk w l := by
  rintro ⟨a, b, c, d, e⟩
  obtain ⟨n, rfl⟩ := Int.eq_ofNat_of_zero_le h0
  unfold badB at h
  rw [bitOf_nat] at h
  simp only [Bool.and_eq_true] at h
  obtain ⟨ht, h⟩ := h
  have ht' := ht
  rw [Nat.testBit_eq_decide_div_mod_eq, decide_eq_true_eq] at ht'
  have hn : n ≠ 0 := by rintro rfl; simp at ht
  have b1 : bitOf (n : Int) 1 = true := by unfold bitOf; simp; omega
  rw [b1] at h
  have hlt : k < 32 := by
    refine Decidable.byContradiction fun hc => ?_
    have h32 : n < 2 ^ 32 := by
      have : (2 ^ 32 : Nat) = 4294967296 := by decide
      omega
    rw [Nat.testBit_lt_two_pow (Nat.lt_of_lt_of_le h32 (Nat.pow_le_pow_right (by omega) (by omega)))] at ht
    cases ht
  by_cases k7 : k = 7 ∧ l = 0
  · obtain ⟨rfl, rfl⟩ := k7
    have := e rfl
    simp only [Nat.reducePow] at ht'
    omega
  · have : knownB k = false := by
      cases hkn : knownB k with
      | false => rfl
      | true =>
        rw [hkn] at h
        simp at h
        exact absurd h k7
    unfold knownB at this
    simp at this
    have hk' : k = 4 ∨ k = 8 ∨ k = 9 ∨ k = 10 ∨ k = 11 := by omega
    rcases hk' with rfl | rfl | rfl | rfl | rfl <;> simp only [Nat.reducePow] at ht' <;> omega
end Go.Proofs.Ytndhgomikpokpaa
