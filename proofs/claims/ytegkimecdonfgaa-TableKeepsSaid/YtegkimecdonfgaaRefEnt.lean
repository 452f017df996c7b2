/- Contracts of the document's own answer on entries: EntryFault, WordOf, LeafMap. -/
import Derived.Test.YtegkimecdonfgaaSep
import Derived.Test.YtegkimecdonfgaaFrm
import Derived.Deep.RegionHeld3
import Derived.Test.YtegkimecdonfgaaEntry
import Derived.Deep.LoopGhost
import Derived.Deep.DeepCutAuto
import Derived.Deep.CutBlock
import Derived.Test.YtegkimecdonfgaaWkFind
import Derived.Test.YtegkimecdonfgaaAgree
namespace Go.Proofs.Ytegkimecdonfgaa
open Go.RowKit
set_option maxRecDepth 100000
set_option maxHeartbeats 4000000 in
theorem entryFault_any (e : En) (l : Int) (w : World) : Calls Try.prog 99 #[.agg #[Value.bool e.there, Value.bool e.leaf, (Value.int .i64) e.rights, Value.bool e.used, Value.bool e.dirty, (Value.int .i64) e.frame], .int .i64 l] w (Pure ((Value.int .i64) (entFault e l)) w) := by
  obtain ⟨th, leaf, r, u, d, f⟩ := e
  have h1 := Has.new (has_old w) #[Value.bool th, Value.bool leaf, (Value.int .i64) r, Value.bool u, Value.bool d, (Value.int .i64) f] 50
  have bl := below_of1 h1.right ((Ext.refl w).alloc (.cells #[Value.bool th, Value.bool leaf, (Value.int .i64) r, Value.bool u, Value.bool d, (Value.int .i64) f] 50))
  have hcell := h1.cells6.2.2.2.2.2
  clear h1
  by_cases l0 : l < 0
  · have hy := Lib.hid (show entFault ⟨th, leaf, r, u, d, f⟩ l = 1 by unfold entFault; rw [if_pos (.inl l0)])
    generalize entFault ⟨th, leaf, r, u, d, f⟩ l = c at hy ⊢
    clear hcell
    go_enter Try.func99, Try.ntmps99
    go_wp2_with fail
    go_ret
    exact ⟨by rw [hy.out]; rfl, bl⟩
  by_cases l4 : 4 ≤ l
  · have hy := Lib.hid (show entFault ⟨th, leaf, r, u, d, f⟩ l = 1 by unfold entFault; rw [if_pos (.inr l4)])
    generalize entFault ⟨th, leaf, r, u, d, f⟩ l = c at hy ⊢
    clear hcell
    go_enter Try.func99, Try.ntmps99
    go_wp2_with fail
    go_ret
    exact ⟨by rw [hy.out]; rfl, bl⟩
  have hl : ¬ (l < 0 ∨ 4 ≤ l) := by omega
  cases th with
  | false =>
    by_cases hz : leaf = false ∧ r = 0 ∧ u = false ∧ d = false ∧ f = 0
    · obtain ⟨rfl, rfl, rfl, rfl, rfl⟩ := hz
      have hy := Lib.hid (show entFault ⟨false, false, 0, false, false, 0⟩ l = 0 by unfold entFault; rw [if_neg hl]; rfl)
      clear hl hcell
      go_enter Try.func99, Try.ntmps99
      go_wp2_with fail
      go_ret
      exact ⟨by rw [hy.out]; rfl, bl⟩
    · have hy := Lib.hid (show entFault ⟨false, leaf, r, u, d, f⟩ l = 7 by
        unfold entFault
        rw [if_neg hl, if_pos rfl, if_neg (fun e => hz (by unfold En.zero at e; injection e with _ a b c d e; exact ⟨a, b, c, d, e⟩))])
      clear hl hcell
      generalize entFault ⟨false, leaf, r, u, d, f⟩ l = c at hy ⊢
      cases leaf with
      | true => ((clear hz); go_enter Try.func99, Try.ntmps99; (go_wp2_with fail); go_ret; exact ⟨by rw [hy.out]; rfl, bl⟩)
      | false =>
        by_cases r0 : r = 0
        · subst r0
          cases u with
          | true => ((clear hz); go_enter Try.func99, Try.ntmps99; (go_wp2_with fail); go_ret; exact ⟨by rw [hy.out]; rfl, bl⟩)
          | false =>
            cases d with
            | true => ((clear hz); go_enter Try.func99, Try.ntmps99; (go_wp2_with fail); go_ret; exact ⟨by rw [hy.out]; rfl, bl⟩)
            | false =>
              have f0 : (f != 0) = true := by
                rw [bne_iff_ne]
                intro h
                exact hz ⟨rfl, rfl, rfl, rfl, h⟩
              ((clear hz); go_enter Try.func99, Try.ntmps99; (go_wp2_with fail); go_ret; exact ⟨by rw [hy.out]; rfl, bl⟩)
        · have r0' : (r != 0) = true := by simpa using r0
          clear r0
          ((clear hz); go_enter Try.func99, Try.ntmps99; (go_wp2_with fail); go_ret; exact ⟨by rw [hy.out]; rfl, bl⟩)
  | true =>
    have ht : ¬ ((⟨true, leaf, r, u, d, f⟩ : En).there = false) := by simp
    by_cases hb : r < 0
    · have hy := Lib.hid (show entFault ⟨true, leaf, r, u, d, f⟩ l = 1 by unfold entFault; rw [if_neg hl, if_neg ht, if_pos (.inl hb)])
      generalize entFault ⟨true, leaf, r, u, d, f⟩ l = c at hy ⊢
      clear hl ht
      go_enter Try.func99, Try.ntmps99
      go_wp2_with fail
      go_ret
      exact ⟨by rw [hy.out]; rfl, bl⟩
    by_cases hb : 7 < r
    · have hy := Lib.hid (show entFault ⟨true, leaf, r, u, d, f⟩ l = 1 by unfold entFault; rw [if_neg hl, if_neg ht, if_pos (.inr (.inl hb))])
      generalize entFault ⟨true, leaf, r, u, d, f⟩ l = c at hy ⊢
      clear hl ht
      go_enter Try.func99, Try.ntmps99
      go_wp2_with fail
      go_ret
      exact ⟨by rw [hy.out]; rfl, bl⟩
    by_cases hb : f < 0
    · have hy := Lib.hid (show entFault ⟨true, leaf, r, u, d, f⟩ l = 1 by unfold entFault; rw [if_neg hl, if_neg ht, if_pos (.inr (.inr (.inl hb)))])
      generalize entFault ⟨true, leaf, r, u, d, f⟩ l = c at hy ⊢
      clear hl ht
      go_enter Try.func99, Try.ntmps99
      go_wp2_with fail
      go_ret
      exact ⟨by rw [hy.out]; rfl, bl⟩
    by_cases hb : 1048576 ≤ f
    · have hy := Lib.hid (show entFault ⟨true, leaf, r, u, d, f⟩ l = 1 by unfold entFault; rw [if_neg hl, if_neg ht, if_pos (.inr (.inr (.inr hb)))])
      generalize entFault ⟨true, leaf, r, u, d, f⟩ l = c at hy ⊢
      clear hl ht
      go_enter Try.func99, Try.ntmps99
      go_wp2_with fail
      go_ret
      exact ⟨by rw [hy.out]; rfl, bl⟩
    have hr : ¬ (r < 0 ∨ 7 < r ∨ f < 0 ∨ 1048576 ≤ f) := by omega
    have d1 : decide (r < 0) = false := by simp; omega
    have d2 : decide (7 < r) = false := by simp; omega
    have d3 : decide (f < 0) = false := by simp; omega
    have d4 : decide (1048576 ≤ f) = false := by simp; omega
    cases leaf with
    | false =>
      by_cases lz : l = 0
      · subst lz
        have hy := Lib.hid (show entFault ⟨true, false, r, u, d, f⟩ 0 = 2 by
          unfold entFault
          rw [if_neg hl, if_neg ht, if_neg hr, if_pos (.inr ⟨rfl, rfl⟩)])
        generalize entFault ⟨true, false, r, u, d, f⟩ 0 = c at hy ⊢
        clear hl ht hr hcell
        go_enter Try.func99, Try.ntmps99
        go_wp2_with fail
        go_ret
        exact ⟨by rw [hy.out]; rfl, bl⟩
      have hk : ¬ ((false = true ∧ l = 3) ∨ (false = false ∧ l = 0)) := by simp [lz]
      have lz' : (l == 0) = false := by simpa using lz
      by_cases hx : r ≠ 7 ∨ u = true ∨ d = true
      · have hy := Lib.hid (show entFault ⟨true, false, r, u, d, f⟩ l = 7 by
          unfold entFault
          rw [if_neg hl, if_neg ht, if_neg hr, if_neg hk, if_pos rfl, if_pos hx])
        clear hl ht hr hk hcell
        generalize entFault ⟨true, false, r, u, d, f⟩ l = c at hy ⊢
        by_cases r7 : r = 7
        · cases u with
          | true =>
            subst r7
            clear hx
            go_enter Try.func99, Try.ntmps99
            go_wp2_with fail
            go_ret
            exact ⟨by rw [hy.out]; rfl, bl⟩
          | false =>
            obtain rfl : d = true := by rcases hx with hx | hx | hx; exact absurd r7 hx; cases hx; exact hx
            subst r7
            clear hx
            go_enter Try.func99, Try.ntmps99
            go_wp2_with fail
            go_ret
            exact ⟨by rw [hy.out]; rfl, bl⟩
        · have r7' : (r != 7) = true := by simpa using r7
          clear hx r7
          go_enter Try.func99, Try.ntmps99
          go_wp2_with fail
          go_ret
          exact ⟨by rw [hy.out]; rfl, bl⟩
      · obtain ⟨rfl, rfl, rfl⟩ : r = 7 ∧ u = false ∧ d = false := by
          refine ⟨?_, ?_, ?_⟩
          · exact Decidable.of_not_not fun h => hx (.inl h)
          · cases u with
            | false => rfl
            | true => exact absurd (.inr (.inl rfl)) hx
          · cases d with
            | false => rfl
            | true => exact absurd (.inr (.inr rfl)) hx
        have hy := Lib.hid (show entFault ⟨true, false, 7, false, false, f⟩ l = 0 by
          unfold entFault
          rw [if_neg hl, if_neg ht, if_neg hr, if_neg hk, if_pos rfl, if_neg hx])
        generalize entFault ⟨true, false, 7, false, false, f⟩ l = c at hy ⊢
        clear hl ht hr hk hx lz hcell
        go_enter Try.func99, Try.ntmps99
        go_wp2_with fail
        go_ret
        exact ⟨by rw [hy.out]; rfl, bl⟩
    | true =>
      by_cases l3 : l = 3
      · subst l3
        have hy := Lib.hid (show entFault ⟨true, true, r, u, d, f⟩ 3 = 2 by
          unfold entFault
          rw [if_neg hl, if_neg ht, if_neg hr, if_pos (.inl ⟨rfl, rfl⟩)])
        generalize entFault ⟨true, true, r, u, d, f⟩ 3 = c at hy ⊢
        clear hl ht hr hcell
        go_enter Try.func99, Try.ntmps99
        go_wp2_with fail
        go_ret
        exact ⟨by rw [hy.out]; rfl, bl⟩
      have hk : ¬ ((true = true ∧ l = 3) ∨ (true = false ∧ l = 0)) := by simp [l3]
      have hsp : entFault ⟨true, true, r, u, d, f⟩ l = if f % span l ≠ 0 then 3 else 0 := by
        unfold entFault
        rw [if_neg hl, if_neg ht, if_neg hr, if_neg hk, if_neg (by simp)]
      have hl3 : l = 0 ∨ l = 1 ∨ l = 2 := by omega
      clear hk l3
      rcases hl3 with rfl | rfl | rfl
      · skip
        have hs : span 0 = 1 := rfl
        have HS := Lib.hid (fun W => spanOf_any 0 W)
        rw [hs] at HS hsp
        have c5 := hcell
        have v5 := via_cell c5
        by_cases hm : f % 1 = 0
        · have hy := Lib.hid (show entFault ⟨true, true, r, u, d, f⟩ 0 = 0 by rw [hsp, if_neg (fun h => h hm)])
          have hm' : (f.tmod 1 != 0) = false := by rw [Int.tmod_eq_emod_of_nonneg (by omega)]; rw [bne_eq_false_iff_eq]; exact hm
          have hm2 : (f % 1 != 0) = false := by rw [bne_eq_false_iff_eq]; exact hm
          generalize entFault ⟨true, true, r, u, d, f⟩ 0 = c at hy ⊢
          clear hl hsp hm hs ht hr
          go_enter Try.func99, Try.ntmps99
          go_wp2_with fail
          refine wp_region_via (by kernel_rfl) (by kernel_rfl) ?_
          repeat (first | go_big_quiet_step ((go_at_call 75; exact Same.via (HS.out _))) | quiet_step ((go_at_call 75; exact Same.via (HS.out _))))
          refine wpQuiet_nil ?_
          intro _ hw'
          obtain ⟨uq, hw''⟩ := hw'
          subst hw''
          go_wp2
          go_ret
          exact ⟨by rw [hy.out]; rfl, bl.trans ((via_below _ _).mono (by simp))⟩
        · exact absurd (Int.emod_one f) hm
      · skip
        have hs : span 1 = 8 := rfl
        have HS := Lib.hid (fun W => spanOf_any 1 W)
        rw [hs] at HS hsp
        have c5 := hcell
        have v5 := via_cell c5
        by_cases hm : f % 8 = 0
        · have hy := Lib.hid (show entFault ⟨true, true, r, u, d, f⟩ 1 = 0 by rw [hsp, if_neg (fun h => h hm)])
          have hm' : (f.tmod 8 != 0) = false := by rw [Int.tmod_eq_emod_of_nonneg (by omega)]; rw [bne_eq_false_iff_eq]; exact hm
          have hm2 : (f % 8 != 0) = false := by rw [bne_eq_false_iff_eq]; exact hm
          generalize entFault ⟨true, true, r, u, d, f⟩ 1 = c at hy ⊢
          clear hl hsp hm hs ht hr
          go_enter Try.func99, Try.ntmps99
          go_wp2_with fail
          refine wp_region_via (by kernel_rfl) (by kernel_rfl) ?_
          repeat (first | go_big_quiet_step ((go_at_call 75; exact Same.via (HS.out _))) | quiet_step ((go_at_call 75; exact Same.via (HS.out _))))
          refine wpQuiet_nil ?_
          intro _ hw'
          obtain ⟨uq, hw''⟩ := hw'
          subst hw''
          go_wp2
          go_ret
          exact ⟨by rw [hy.out]; rfl, bl.trans ((via_below _ _).mono (by simp))⟩
        · have hy := Lib.hid (show entFault ⟨true, true, r, u, d, f⟩ 1 = 3 by rw [hsp, if_pos hm])
          have hm' : (f.tmod 8 != 0) = true := by rw [Int.tmod_eq_emod_of_nonneg (by omega)]; rw [bne_iff_ne]; exact hm
          have hm2 : (f % 8 != 0) = true := by rw [bne_iff_ne]; exact hm
          generalize entFault ⟨true, true, r, u, d, f⟩ 1 = c at hy ⊢
          clear hl hsp hm hs ht hr
          go_enter Try.func99, Try.ntmps99
          go_wp2_with fail
          refine wp_region_via (by kernel_rfl) (by kernel_rfl) ?_
          repeat (first | go_big_quiet_step ((go_at_call 75; exact Same.via (HS.out _))) | quiet_step ((go_at_call 75; exact Same.via (HS.out _))))
          refine wpQuiet_nil ?_
          intro _ hw'
          obtain ⟨uq, hw''⟩ := hw'
          subst hw''
          go_wp2
          go_ret
          exact ⟨by rw [hy.out]; rfl, bl.trans ((via_below _ _).mono (by simp))⟩
      · skip
        have hs : span 2 = 64 := rfl
        have HS := Lib.hid (fun W => spanOf_any 2 W)
        rw [hs] at HS hsp
        have c5 := hcell
        have v5 := via_cell c5
        by_cases hm : f % 64 = 0
        · have hy := Lib.hid (show entFault ⟨true, true, r, u, d, f⟩ 2 = 0 by rw [hsp, if_neg (fun h => h hm)])
          have hm' : (f.tmod 64 != 0) = false := by rw [Int.tmod_eq_emod_of_nonneg (by omega)]; rw [bne_eq_false_iff_eq]; exact hm
          have hm2 : (f % 64 != 0) = false := by rw [bne_eq_false_iff_eq]; exact hm
          generalize entFault ⟨true, true, r, u, d, f⟩ 2 = c at hy ⊢
          clear hl hsp hm hs ht hr
          go_enter Try.func99, Try.ntmps99
          go_wp2_with fail
          refine wp_region_via (by kernel_rfl) (by kernel_rfl) ?_
          repeat (first | go_big_quiet_step ((go_at_call 75; exact Same.via (HS.out _))) | quiet_step ((go_at_call 75; exact Same.via (HS.out _))))
          refine wpQuiet_nil ?_
          intro _ hw'
          obtain ⟨uq, hw''⟩ := hw'
          subst hw''
          go_wp2
          go_ret
          exact ⟨by rw [hy.out]; rfl, bl.trans ((via_below _ _).mono (by simp))⟩
        · have hy := Lib.hid (show entFault ⟨true, true, r, u, d, f⟩ 2 = 3 by rw [hsp, if_pos hm])
          have hm' : (f.tmod 64 != 0) = true := by rw [Int.tmod_eq_emod_of_nonneg (by omega)]; rw [bne_iff_ne]; exact hm
          have hm2 : (f % 64 != 0) = true := by rw [bne_iff_ne]; exact hm
          generalize entFault ⟨true, true, r, u, d, f⟩ 2 = c at hy ⊢
          clear hl hsp hm hs ht hr
          go_enter Try.func99, Try.ntmps99
          go_wp2_with fail
          refine wp_region_via (by kernel_rfl) (by kernel_rfl) ?_
          repeat (first | go_big_quiet_step ((go_at_call 75; exact Same.via (HS.out _))) | quiet_step ((go_at_call 75; exact Same.via (HS.out _))))
          refine wpQuiet_nil ?_
          intro _ hw'
          obtain ⟨uq, hw''⟩ := hw'
          subst hw''
          go_wp2
          go_ret
          exact ⟨by rw [hy.out]; rfl, bl.trans ((via_below _ _).mono (by simp))⟩
end Go.Proofs.Ytegkimecdonfgaa
namespace Go.Proofs.Ytegkimecdonfgaa
open Go.RowKit
set_option maxRecDepth 100000
def knownB (k : Nat) : Bool := decide (k ≤ 3) || (decide (5 ≤ k) && decide (k ≤ 7)) || (decide (12 ≤ k) && decide (k ≤ 31))
/-- Is that bit one that may not be? -/
def badB (w l : Int) (k : Nat) : Bool := bitOf w ((2 ^ k : Nat) : Int) && (!knownB k || !bitOf w 1 || (decide (k = 7) && decide (l = 0)))
theorem bitOf_nat (n k : Nat) : bitOf (n : Int) ((2 ^ k : Nat) : Int) = n.testBit k := by
  unfold bitOf
  rw [Nat.testBit_eq_decide_div_mod_eq, ← Int.natCast_ediv]
  by_cases h : n / 2 ^ k % 2 = 1
  · have : ((n / 2 ^ k : Nat) : Int) % 2 = 1 := by omega
    rw [decide_eq_true h, decide_eq_true this]
  · have : ¬ ((n / 2 ^ k : Nat) : Int) % 2 = 1 := by omega
    rw [decide_eq_false h, decide_eq_false this]
theorem badB_no {w l : Int} (h0 : 0 ≤ w) (h1 : w < 18446744073709551616) (h : ∀ k, k < 64 → badB w l k = false) : bitsOk w l := by
  obtain ⟨n, rfl⟩ := Int.eq_ofNat_of_zero_le h0
  have hb : ∀ k, k < 64 → n.testBit k = true → knownB k = true ∧ bitOf (n : Int) 1 = true ∧ ¬ (k = 7 ∧ l = 0) := fun k hk ht => by
    have := h k hk
    unfold badB at this
    rw [bitOf_nat, ht] at this
    cases hkn : knownB k <;> cases hb1 : bitOf (n : Int) 1 <;> rw [hkn, hb1] at this <;> simp at this ⊢
    exact this
  have hz : ∀ k, k < 64 → knownB k = false → n / 2 ^ k % 2 = 0 := fun k hk hkn => by
    cases ht : n.testBit k with
    | true => have := (hb k hk ht).1; rw [hkn] at this; cases this
    | false =>
      rw [Nat.testBit_eq_decide_div_mod_eq] at ht
      simp at ht
      omega
  have z4 := hz 4 (by omega) rfl
  have z8 := hz 8 (by omega) rfl
  have z9 := hz 9 (by omega) rfl
  have z10 := hz 10 (by omega) rfl
  have z11 := hz 11 (by omega) rfl
  simp only [Nat.reducePow] at z4 z8 z9 z10 z11
  have h1' : n < 2 ^ 64 := by
    have : (2 ^ 64 : Nat) = 18446744073709551616 := by decide
    omega
  have hlt : ∀ k, n.testBit k = true → k < 64 := fun k ht => by
    refine Decidable.byContradiction fun hk => ?_
    rw [Nat.testBit_lt_two_pow (Nat.lt_of_lt_of_le h1' (Nat.pow_le_pow_right (by omega) (by omega)))] at ht
    cases ht
  refine ⟨by omega, by omega, ?_, ?_, fun e => ?_⟩
  · refine Decidable.byContradiction fun hc => ?_
    have hge : n ≥ 2 ^ 32 := by
      have : (2 ^ 32 : Nat) = 4294967296 := by decide
      omega
    obtain ⟨i, hi, ht⟩ := Nat.exists_ge_and_testBit_of_ge_two_pow hge
    have hi64 := hlt i ht
    have := (hb i hi64 ht).1
    unfold knownB at this
    simp at this
    omega
  · by_cases hn : n = 0
    · left; omega
    · right
      obtain ⟨i, ht⟩ := Nat.exists_testBit_of_ne_zero hn
      have := (hb i (hlt i ht) ht).2.1
      unfold bitOf at this
      simp at this
      omega
  · cases ht : n.testBit 7 with
    | true => exact absurd ⟨rfl, e⟩ (hb 7 (by omega) ht).2.2
    | false =>
      rw [Nat.testBit_eq_decide_div_mod_eq] at ht
      simp at ht
      omega
theorem badB_yes {w l : Int} {k : Nat} (h0 : 0 ≤ w) (hk : k < 64) (h : badB w l k = true) : ¬ bitsOk w l := by
  rintro ⟨a, b, c, d, e⟩
  obtain ⟨n, rfl⟩ := Int.eq_ofNat_of_zero_le h0
  unfold badB at h
  rw [bitOf_nat] at h
  simp only [Bool.and_eq_true] at h
  obtain ⟨ht, h⟩ := h
  have ht' := ht
  rw [Nat.testBit_eq_decide_div_mod_eq, decide_eq_true_eq] at ht'
  have hn : n ≠ 0 := by rintro rfl; simp at ht
  have b1 : bitOf (n : Int) 1 = true := by unfold bitOf; simp; omega
  rw [b1] at h
  have hlt : k < 32 := by
    refine Decidable.byContradiction fun hc => ?_
    have h32 : n < 2 ^ 32 := by
      have : (2 ^ 32 : Nat) = 4294967296 := by decide
      omega
    rw [Nat.testBit_lt_two_pow (Nat.lt_of_lt_of_le h32 (Nat.pow_le_pow_right (by omega) (by omega)))] at ht
    cases ht
  by_cases k7 : k = 7 ∧ l = 0
  · obtain ⟨rfl, rfl⟩ := k7
    have := e rfl
    simp only [Nat.reducePow] at ht'
    omega
  · have : knownB k = false := by
      cases hkn : knownB k with
      | false => rfl
      | true =>
        rw [hkn] at h
        simp at h
        exact absurd h k7
    unfold knownB at this
    simp at this
    have hk' : k = 4 ∨ k = 8 ∨ k = 9 ∨ k = 10 ∨ k = 11 := by omega
    rcases hk' with rfl | rfl | rfl | rfl | rfl <;> simp only [Nat.reducePow] at ht' <;> omega
end Go.Proofs.Ytegkimecdonfgaa
namespace Go.Proofs.Ytegkimecdonfgaa
open Go.RowKit
set_option maxRecDepth 100000
theorem on_any (b : Nat) (w : Int) (k : Nat) (W : World) (c0 : W.cell? ⟨b, 0, none⟩ = some ((Value.int .u64) w)) (h0 : 0 ≤ w) (_ : w < 18446744073709551616) (hk : k < 64) :
    Calls Try.prog 125 #[(Value.int .u64) k, .pointer (some ⟨b, 0, none⟩)] W (Same (Value.bool (bitOf w ((2 ^ k : Nat) : Int))) W) := by
  have hy := Lib.hid (show bitOf w ((2 ^ k : Nat) : Int) = ((w / 2 ^ k).tmod 2 == 1) by
    unfold bitOf
    rw [show ((2 ^ k : Nat) : Int) = 2 ^ k by simp, Int.tmod_eq_emod_of_nonneg (Int.ediv_nonneg h0 (Int.le_of_lt (Int.pow_pos (by decide))))]
    rfl)
  generalize bitOf w ((2 ^ k : Nat) : Int) = B at *
  go_enter Try.func125, Try.ntmps125
  go_wp2
  go_ret
  exact ⟨by rw [hy.out]; rfl, rfl⟩
theorem on_is (b : Nat) (w : Int) (k : Nat) (B : Bool) (h : bitOf w ((2 ^ k : Nat) : Int) = B) (W : World) (c0 : W.cell? ⟨b, 0, none⟩ = some ((Value.int .u64) w)) (h0 : 0 ≤ w) (h1 : w < 18446744073709551616) (hk : k < 64) :
    Calls Try.prog 125 #[(Value.int .u64) k, .pointer (some ⟨b, 0, none⟩)] W (Same (Value.bool B) W) := h ▸ on_any b w k W c0 h0 h1 hk
theorem decC_bad {w l : Int} {k : Nat} (hl : 0 ≤ l ∧ l < 4) (h0 : 0 ≤ w) (hk : k < 64) (h : badB w l k = true) : decC w l = 7 := by
  unfold decC
  rw [if_neg (by omega), if_pos (badB_yes h0 hk h)]
set_option maxHeartbeats 8000000 in
theorem entryOf_any (w l : Int) (W : World) (h0 : 0 ≤ w) (h1 : w < 18446744073709551616) : Calls Try.prog 98 #[.int .u64 w, .int .i64 l] W (Pure (decV w l) W) := by
  have hmf : ∀ (fn : Fn) (first cap : Array Value) (w : World), (Instr.makeFunc fn first cap).run Try.prog w = .ok (.func fn first cap) w := fun _ _ _ _ => rfl
  have hw := (Has.new (has_old W) #[(Value.int .u64) w] 59).new #[Value.bool false, Value.bool false, (Value.int .i64) 0, Value.bool false, Value.bool false, (Value.int .i64) 0] 50
  have xw := ((Ext.refl W).alloc (.cells #[(Value.int .u64) w] 59)).alloc (.cells #[Value.bool false, Value.bool false, (Value.int .i64) 0, Value.bool false, Value.bool false, (Value.int .i64) 0] 50)
  simp only [World.size_alloc] at hw
  by_cases l0 : l < 0
  · have hy := Lib.hid (decV_no (w := w) (l := l) (c := 1) (by unfold decC; rw [if_pos (.inl l0)]) (.inl (by decide)))
    generalize decV w l = V at hy ⊢
    go_enter Try.func98, Try.ntmps98
    go_wp2
    exact bodyPost_ret (results_ct Try.results98 rfl rfl (load_entry hw)) rfl ⟨congrArg Ending.returned hy.out.symm, below_of1 hw.right.right xw⟩
  by_cases l4 : 4 ≤ l
  · have hy := Lib.hid (decV_no (w := w) (l := l) (c := 1) (by unfold decC; rw [if_pos (.inr l4)]) (.inl (by decide)))
    generalize decV w l = V at hy ⊢
    go_enter Try.func98, Try.ntmps98
    go_wp2
    exact bodyPost_ret (results_ct Try.results98 rfl rfl (load_entry hw)) rfl ⟨congrArg Ending.returned hy.out.symm, below_of1 hw.right.right xw⟩
  have hl : 0 ≤ l ∧ l < 4 := by omega
  go_enter Try.func98, Try.ntmps98
  go_wp2_with fail
  generalize (W.alloc (.cells #[(Value.int .u64) w] 59)).alloc (.cells #[Value.bool false, Value.bool false, (Value.int .i64) 0, Value.bool false, Value.bool false, (Value.int .i64) 0] 50) = W2 at *
  obtain ⟨d0, d1, d2, d3, d4, d5⟩ := hw.cells6
  have wc : W2.cell? ⟨W.heap.size, 0, none⟩ = some ((Value.int .u64) w) := hw.right.cell 0
  have f0 := hw.free 0
  have f1 := hw.free 1
  have f2 := hw.free 2
  have f3 := hw.free 3
  have f4 := hw.free 4
  have f5 := hw.free 5
  have zl := hw.lt
  have zl2 := hw.right.lt
  go_loopw [7] (fun t wz => ∃ k : Nat, k ≤ 64 ∧ t = (Value.int .u64) k ∧ (∀ i, i < k → badB w l i = false) ∧ W2 = wz) (fun t _ => 64 - (intOf t).toNat)
  case atStart => exact ⟨0, by omega, rfl, fun i hi => by omega, rfl⟩
  case round =>
    obtain ⟨k, hk, rfl, hno, rfl⟩ := hrel
    by_cases hk64 : k < 64
    · obtain ⟨kn, hkn⟩ : ∃ kn, knownB k = kn := ⟨_, rfl⟩
      have hkn := Lib.hid hkn
      have hnx := Lib.hid hno
      clear hno
      go_upto_region 7 with fail
      go_cut [8] (fun B wx => B = Value.bool kn ∧ W2 = wx)
      case first =>
        have hr : (0 ≤ k ∧ k ≤ 3) ∨ (4 ≤ k ∧ k ≤ 4) ∨ (5 ≤ k ∧ k ≤ 7) ∨ (8 ≤ k ∧ k ≤ 11) ∨ (12 ≤ k ∧ k ≤ 31) ∨ (32 ≤ k ∧ k ≤ 63) := by omega
        rcases hr with ⟨r1, r2⟩ | ⟨r1, r2⟩ | ⟨r1, r2⟩ | ⟨r1, r2⟩ | ⟨r1, r2⟩ | ⟨r1, r2⟩
        · skip
          have hk2 := Lib.hid (show Value.bool true = Value.bool kn by rw [← hkn.out]; congr 1; unfold knownB; symm; simp; omega)
          clear hkn hnx
          go_wp2_with fail
          go_meet
          case rel => exact ⟨by first | (rw [← hk2.out]; done) | (rw [← hk2.out]; rfl) | (rw [← hk2.out]; simp; done) | (rw [← hk2.out]; simp; omega), rfl⟩
        · skip
          have hk2 := Lib.hid (show Value.bool false = Value.bool kn by rw [← hkn.out]; congr 1; unfold knownB; symm; simp; omega)
          clear hkn hnx
          go_wp2_with fail
          go_meet
          case rel => exact ⟨by first | (rw [← hk2.out]; done) | (rw [← hk2.out]; rfl) | (rw [← hk2.out]; simp; done) | (rw [← hk2.out]; simp; omega), rfl⟩
        · skip
          have hk2 := Lib.hid (show Value.bool true = Value.bool kn by rw [← hkn.out]; congr 1; unfold knownB; symm; simp; omega)
          clear hkn hnx
          go_wp2_with fail
          go_meet
          case rel => exact ⟨by first | (rw [← hk2.out]; done) | (rw [← hk2.out]; rfl) | (rw [← hk2.out]; simp; done) | (rw [← hk2.out]; simp; omega), rfl⟩
        · skip
          have hk2 := Lib.hid (show Value.bool false = Value.bool kn by rw [← hkn.out]; congr 1; unfold knownB; symm; simp; omega)
          clear hkn hnx
          go_wp2_with fail
          go_meet
          case rel => exact ⟨by first | (rw [← hk2.out]; done) | (rw [← hk2.out]; rfl) | (rw [← hk2.out]; simp; done) | (rw [← hk2.out]; simp; omega), rfl⟩
        · skip
          have hk2 := Lib.hid (show Value.bool true = Value.bool kn by rw [← hkn.out]; congr 1; unfold knownB; symm; simp; omega)
          clear hkn hnx
          go_wp2_with fail
          go_meet
          case rel => exact ⟨by first | (rw [← hk2.out]; done) | (rw [← hk2.out]; rfl) | (rw [← hk2.out]; simp; done) | (rw [← hk2.out]; simp; omega), rfl⟩
        · skip
          have hk2 := Lib.hid (show Value.bool false = Value.bool kn by rw [← hkn.out]; congr 1; unfold knownB; symm; simp; omega)
          clear hkn hnx
          go_wp2_with fail
          go_meet
          case rel => exact ⟨by first | (rw [← hk2.out]; done) | (rw [← hk2.out]; rfl) | (rw [← hk2.out]; simp; done) | (rw [← hk2.out]; simp; omega), rfl⟩
      case rest =>
        obtain ⟨rfl, rfl⟩ := hcut
        cases hbit : bitOf w ((2 ^ k : Nat) : Int) with
        | false =>
          have hno' := Lib.hid (fun (i : Nat) (hi : i < k + 1) => show badB w l i = false by
            by_cases e : i = k
            · subst e; unfold badB; rw [hbit]; rfl
            · exact hnx.out i (by omega))
          clear hnx hkn
          go_wp2_with fail
          refine (on_is _ w k false hbit _ wc h0 h1 hk64).mono ?_; rintro e w' ⟨rfl, rfl⟩
          go_wp2_with fail
          go_roundw
          case rel => exact ⟨k + 1, by omega, by go_num, hno'.out, trivial⟩
          case measure => simp [intOf]; omega
        | true =>
          cases kn with
          | false =>
            have hy := Lib.hid (decV_no (decC_bad hl h0 hk64 (show badB w l k = true by unfold badB; rw [hbit]; rw [hkn.out]; rfl)) (.inl (by decide)))
            clear hkn hnx
            go_wp2_with fail
            refine (on_is _ w k true hbit _ wc h0 h1 hk64).mono ?_; rintro e w' ⟨rfl, rfl⟩
            go_wp2_with fail
            refine ret_via (fun wz => Has wz (blk (W.heap.size + 1) #[Value.bool false, Value.bool false, (Value.int .i64) 0, Value.bool false, Value.bool false, (Value.int .i64) 0] 50 * (blk W.heap.size #[(Value.int .u64) w] 59 * old W W.heap.size)) ∧ Ext W wz) ⟨hw.set6 _ _ _ _ _ _, by (repeat (first | with_reducible assumption | with_reducible exact Ext.refl _ | with_reducible refine Ext.set ?_ _ _ | with_reducible refine Ext.alloc ?_ _ | with_reducible refine Ext.drew ?_ | with_reducible refine Ext.drewN ?_ _ | assumption | exact Ext.refl _ | refine Ext.alloc ?_ _ | refine Ext.set ?_ _ _ | refine Ext.drew ?_ | refine Ext.drewN ?_ _ | refine Ext.below ?_ (by assumption) | refine Ext.trans ?_ (by assumption)))⟩ ?_
            rintro wz ⟨hz, xz⟩
            exact bodyPost_ret (results_ct Try.results98 rfl rfl (load_entry hz)) rfl ⟨congrArg Ending.returned hy.out.symm, below_of1 hz.right.right xz⟩
          | true =>
            cases hb1 : bitOf w 1 with
            | false =>
              have hy := Lib.hid (decV_no (decC_bad hl h0 hk64 (show badB w l k = true by unfold badB; rw [hbit]; rw [hb1]; simp)) (.inl (by decide)))
              have hb0 : bitOf w ((2 ^ 0 : Nat) : Int) = false := hb1
              clear hkn hnx
              go_wp2_with fail
              refine (on_is _ w k true hbit _ wc h0 h1 hk64).mono ?_; rintro e w' ⟨rfl, rfl⟩
              go_wp2_with fail
              refine (on_is _ w 0 false hb0 _ wc h0 h1 (by omega)).mono ?_; rintro e w' ⟨rfl, rfl⟩
              go_wp2_with fail
              refine ret_via (fun wz => Has wz (blk (W.heap.size + 1) #[Value.bool false, Value.bool false, (Value.int .i64) 0, Value.bool false, Value.bool false, (Value.int .i64) 0] 50 * (blk W.heap.size #[(Value.int .u64) w] 59 * old W W.heap.size)) ∧ Ext W wz) ⟨hw.set6 _ _ _ _ _ _, by (repeat (first | with_reducible assumption | with_reducible exact Ext.refl _ | with_reducible refine Ext.set ?_ _ _ | with_reducible refine Ext.alloc ?_ _ | with_reducible refine Ext.drew ?_ | with_reducible refine Ext.drewN ?_ _ | assumption | exact Ext.refl _ | refine Ext.alloc ?_ _ | refine Ext.set ?_ _ _ | refine Ext.drew ?_ | refine Ext.drewN ?_ _ | refine Ext.below ?_ (by assumption) | refine Ext.trans ?_ (by assumption)))⟩ ?_
              rintro wz ⟨hz, xz⟩
              exact bodyPost_ret (results_ct Try.results98 rfl rfl (load_entry hz)) rfl ⟨congrArg Ending.returned hy.out.symm, below_of1 hz.right.right xz⟩
            | true =>
              have hb0 : bitOf w ((2 ^ 0 : Nat) : Int) = true := hb1
              have hno' := fun (h7 : ¬ (k = 7 ∧ l = 0)) (i : Nat) (hi : i < k + 1) => show badB w l i = false by
                by_cases e : i = k
                · subst e
                  unfold badB
                  rw [hkn.out, hb1]
                  cases hd : (decide (i = 7) && decide (l = 0)) with
                  | false => simp
                  | true => simp at hd; exact absurd hd h7
                · exact hnx.out i (by omega)
              by_cases k7 : k = 7
              · have k7' : ((k : Int) == 7) = true := by rw [beq_iff_eq]; omega
                by_cases l0' : l = 0
                · have hy := Lib.hid (decV_no (decC_bad hl h0 hk64 (show badB w l k = true by unfold badB; rw [hbit]; rw [hkn.out, hb1]; simp [k7, l0'])) (.inl (by decide)))
                  have l1 : (l == 0) = true := by simpa using l0'
                  clear hkn hnx hno' k7 l0' hb1
                  go_wp2_with fail
                  refine (on_is _ w k true hbit _ wc h0 h1 hk64).mono ?_; rintro e w' ⟨rfl, rfl⟩
                  go_wp2_with fail
                  refine (on_is _ w 0 true hb0 _ wc h0 h1 (by omega)).mono ?_; rintro e w' ⟨rfl, rfl⟩
                  go_wp2_with fail
                  refine ret_via (fun wz => Has wz (blk (W.heap.size + 1) #[Value.bool false, Value.bool false, (Value.int .i64) 0, Value.bool false, Value.bool false, (Value.int .i64) 0] 50 * (blk W.heap.size #[(Value.int .u64) w] 59 * old W W.heap.size)) ∧ Ext W wz) ⟨hw.set6 _ _ _ _ _ _, by (repeat (first | with_reducible assumption | with_reducible exact Ext.refl _ | with_reducible refine Ext.set ?_ _ _ | with_reducible refine Ext.alloc ?_ _ | with_reducible refine Ext.drew ?_ | with_reducible refine Ext.drewN ?_ _ | assumption | exact Ext.refl _ | refine Ext.alloc ?_ _ | refine Ext.set ?_ _ _ | refine Ext.drew ?_ | refine Ext.drewN ?_ _ | refine Ext.below ?_ (by assumption) | refine Ext.trans ?_ (by assumption)))⟩ ?_
                  rintro wz ⟨hz, xz⟩
                  exact bodyPost_ret (results_ct Try.results98 rfl rfl (load_entry hz)) rfl ⟨congrArg Ending.returned hy.out.symm, below_of1 hz.right.right xz⟩
                · have l1 : (l == 0) = false := by simpa using l0'
                  have hno' := Lib.hid (hno' (fun h => l0' h.2))
                  clear hkn hnx k7 l0' hb1
                  go_wp2_with fail
                  refine (on_is _ w k true hbit _ wc h0 h1 hk64).mono ?_; rintro e w' ⟨rfl, rfl⟩
                  go_wp2_with fail
                  refine (on_is _ w 0 true hb0 _ wc h0 h1 (by omega)).mono ?_; rintro e w' ⟨rfl, rfl⟩
                  go_wp2_with fail
                  go_roundw
                  case rel => exact ⟨k + 1, by omega, by go_num, hno'.out, trivial⟩
                  case measure => simp [intOf]; omega
              · have k7' : ((k : Int) == 7) = false := by rw [beq_eq_false_iff_ne]; omega
                have hno' := Lib.hid (hno' (fun h => k7 h.1))
                clear hkn hnx k7 hb1
                go_wp2_with fail
                refine (on_is _ w k true hbit _ wc h0 h1 hk64).mono ?_; rintro e w' ⟨rfl, rfl⟩
                go_wp2_with fail
                refine (on_is _ w 0 true hb0 _ wc h0 h1 (by omega)).mono ?_; rintro e w' ⟨rfl, rfl⟩
                go_wp2_with fail
                go_roundw
                case rel => exact ⟨k + 1, by omega, by go_num, hno'.out, trivial⟩
                case measure => simp [intOf]; omega
    · obtain rfl : k = 64 := by omega
      have hok := badB_no h0 h1 hno
      clear hno
      by_cases wz : w = 0
      · have hy := Lib.hid (decV_no (w := w) (l := l) (c := 0) (by unfold decC; rw [if_neg (by omega), if_neg (by simpa using hok), if_pos wz]) (.inr wz))
        have wz' : (w == 0) = true := by simpa using wz
        clear wz hok
        go_wp2_with fail
        refine ret_via (fun wz => Has wz (blk (W.heap.size + 1) #[Value.bool false, Value.bool false, (Value.int .i64) 0, Value.bool false, Value.bool false, (Value.int .i64) 0] 50 * (blk W.heap.size #[(Value.int .u64) w] 59 * old W W.heap.size)) ∧ Ext W wz) ⟨hw.set6 _ _ _ _ _ _, by (repeat (first | with_reducible assumption | with_reducible exact Ext.refl _ | with_reducible refine Ext.set ?_ _ _ | with_reducible refine Ext.alloc ?_ _ | with_reducible refine Ext.drew ?_ | with_reducible refine Ext.drewN ?_ _ | assumption | exact Ext.refl _ | refine Ext.alloc ?_ _ | refine Ext.set ?_ _ _ | refine Ext.drew ?_ | refine Ext.drewN ?_ _ | refine Ext.below ?_ (by assumption) | refine Ext.trans ?_ (by assumption)))⟩ ?_
        rintro wz ⟨hz, xz⟩
        exact bodyPost_ret (results_ct Try.results98 rfl rfl (load_entry hz)) rfl ⟨congrArg Ending.returned hy.out.symm, below_of1 hz.right.right xz⟩
      have wz' : (w == 0) = false := by simpa using wz
      have hd : decC w l = entFault (unword w l) l := by unfold decC; rw [if_neg (by omega), if_neg (by simpa using hok), if_neg wz]
      have hv0 : decC w l = 0 → decV w l = .tuple #[.agg #[Value.bool true, Value.bool (unword w l).leaf, (Value.int .i64) (w / 2 % 8), Value.bool (bitOf w 32), Value.bool (bitOf w 64), (Value.int .i64) (w / 4096)], (Value.int .i64) 0] := fun hc => by
        unfold decV decE
        rw [if_pos ⟨hc, wz⟩, hc]
        rfl
      have hv0 := Lib.hid hv0
      clear wz hok
      by_cases l00 : l = 0
      · subst l00
        have he : unword w 0 = ⟨true, true, w / 2 % 8, bitOf w 32, bitOf w 64, w / 4096⟩ := rfl
        have HC : ∀ X, Calls Try.prog 99 #[.agg #[Value.bool true, Value.bool (true), (Value.int .i64) (w / 2 % 8), Value.bool (bitOf w 32), Value.bool (bitOf w 64), (Value.int .i64) (w / 4096)], .int .i64 0] X (Pure ((Value.int .i64) (decC w 0)) X) := fun X => by
          have := entryFault_any (unword w 0) 0 X
          rw [← hd, he] at this
          exact this
        have HC := Lib.hid HC
        have HO7 := Lib.hid (fun X c => show Calls Try.prog 125 #[.int .u64 7, .pointer (some ⟨W.heap.size, 0, none⟩)] X (Same (Value.bool (bitOf w 128)) X) from on_any W.heap.size w 7 X c h0 h1 (by omega))
        have HO5 := Lib.hid (fun X c => show Calls Try.prog 125 #[.int .u64 5, .pointer (some ⟨W.heap.size, 0, none⟩)] X (Same (Value.bool (bitOf w 32)) X) from on_any W.heap.size w 5 X c h0 h1 (by omega))
        have HO6 := Lib.hid (fun X c => show Calls Try.prog 125 #[.int .u64 6, .pointer (some ⟨W.heap.size, 0, none⟩)] X (Same (Value.bool (bitOf w 64)) X) from on_any W.heap.size w 6 X c h0 h1 (by omega))
        rw [he] at hv0
        have hno := Lib.hid (fun hc => decV_no (w := w) (l := 0) (c := decC w 0) rfl (.inl hc))
        clear hl hd he
        go_upto_region 12 with fail
        clear hmf d0 d1 d2 d3 d4 d5 f0 f1 f2 f3 f4 f5 wz' zl
        have q1 := Lib.hid (show IntKind.i64.wrap ((IntKind.u64.wrap (w.tdiv 2)).tmod 8) = w / 2 % 8 by rw [Int.tdiv_eq_ediv_of_nonneg h0, IntKind.wrap_u64, Int.tmod_eq_emod_of_nonneg (by omega), IntKind.wrap_i64]; omega)
        have q2 := Lib.hid (show IntKind.i64.wrap (IntKind.u64.wrap (w.tdiv 4096)) = w / 4096 by rw [Int.tdiv_eq_ediv_of_nonneg h0, IntKind.wrap_u64, IntKind.wrap_i64]; omega)
        go_cut [9] (fun v wx => v = .pointer (some ⟨W2.heap.size, 0, none⟩) ∧ (W2.alloc (.cells #[Value.bool true, Value.bool (true), (Value.int .i64) (w / 2 % 8), Value.bool (bitOf w 32), Value.bool (bitOf w 64), (Value.int .i64) (w / 4096)] 50)).drew = wx)
        case first =>
          first | (go_region_held (fun w' => w'.cell? ⟨W.heap.size, 0, none⟩ = some ((Value.int .u64) w)) (go_keep) (first | (go_at_call 125; (with_reducible refine (HO7.out _ (by assumption)).mono ?_); rintro e w' ⟨rfl, rfl⟩) | (go_at_call 125; (with_reducible refine (HO5.out _ (by assumption)).mono ?_); rintro e w' ⟨rfl, rfl⟩) | (go_at_call 125; (with_reducible refine (HO6.out _ (by assumption)).mono ?_); rintro e w' ⟨rfl, rfl⟩))) | fail
          all_goals
            go_wp2_with fail
            go_meet
            first | exact ⟨rfl, by rw [q1.out, q2.out]⟩ | (case rel => exact ⟨rfl, by rw [q1.out, q2.out]⟩)
        case rest =>
          obtain ⟨rfl, rfl⟩ := hcut
          have hx := (hw.new #[Value.bool true, Value.bool (true), (Value.int .i64) (w / 2 % 8), Value.bool (bitOf w 32), Value.bool (bitOf w 64), (Value.int .i64) (w / 4096)] 50).drew
          have xx := (xw.alloc (.cells #[Value.bool true, Value.bool (true), (Value.int .i64) (w / 2 % 8), Value.bool (bitOf w 32), Value.bool (bitOf w 64), (Value.int .i64) (w / 4096)] 50)).drew
          clear q1 q2 HO5 HO6 HO7
          by_cases hc : decC w 0 = 0
          · have hy := Lib.hid (hv0.out hc)
            rw [hc] at HC
            clear hc hv0 hno
            go_wp2_with fail
            refine (HC.out _).mono ?_; rintro e w2 ⟨rfl, bl⟩
            have h2 := hx.below bl
            have x2 := xx.below bl
            obtain ⟨c0, c1, c2, c3, c4, c5⟩ := h2.cells6
            obtain ⟨d0, d1, d2, d3, d4, d5⟩ := h2.right.cells6
            obtain ⟨f0, f1, f2, f3, f4, f5⟩ := h2.right.frees6
            have l2 := h2.right.lt
            clear HC bl hx xx hw xw
            go_wp2
            refine ret_via (fun wz => Has wz (blk (W.heap.size + 1) #[Value.bool true, Value.bool (true), (Value.int .i64) (w / 2 % 8), Value.bool (bitOf w 32), Value.bool (bitOf w 64), (Value.int .i64) (w / 4096)] 50 * (blk W.heap.size #[(Value.int .u64) w] 59 * old W W.heap.size)) ∧ Ext W wz) ⟨h2.right.set6 _ _ _ _ _ _, by (repeat (first | with_reducible assumption | with_reducible exact Ext.refl _ | with_reducible refine Ext.set ?_ _ _ | with_reducible refine Ext.alloc ?_ _ | with_reducible refine Ext.drew ?_ | with_reducible refine Ext.drewN ?_ _ | assumption | exact Ext.refl _ | refine Ext.alloc ?_ _ | refine Ext.set ?_ _ _ | refine Ext.drew ?_ | refine Ext.drewN ?_ _ | refine Ext.below ?_ (by assumption) | refine Ext.trans ?_ (by assumption)))⟩ ?_
            rintro wz ⟨hz, xz⟩
            exact bodyPost_ret (results_ct Try.results98 rfl rfl (load_entry hz)) rfl ⟨congrArg Ending.returned hy.out.symm, below_of1 hz.right.right xz⟩
          · have hy := Lib.hid (hno.out hc)
            have hn : (decC w 0 != 0) = true := by simpa using hc
            clear hc hv0 hno
            generalize decC w 0 = c at *
            go_wp2_with fail
            refine (HC.out _).mono ?_; rintro e w2 ⟨rfl, bl⟩
            have h2 := hx.below bl
            have x2 := xx.below bl
            obtain ⟨c0, c1, c2, c3, c4, c5⟩ := h2.cells6
            obtain ⟨d0, d1, d2, d3, d4, d5⟩ := h2.right.cells6
            obtain ⟨f0, f1, f2, f3, f4, f5⟩ := h2.right.frees6
            have l2 := h2.right.lt
            clear HC bl hx xx hw xw
            go_wp2
            refine ret_via (fun wz => Has wz (blk (W.heap.size + 1) #[Value.bool false, Value.bool false, (Value.int .i64) 0, Value.bool false, Value.bool false, (Value.int .i64) 0] 50 * (blk W.heap.size #[(Value.int .u64) w] 59 * old W W.heap.size)) ∧ Ext W wz) ⟨h2.right.set6 _ _ _ _ _ _, by (repeat (first | with_reducible assumption | with_reducible exact Ext.refl _ | with_reducible refine Ext.set ?_ _ _ | with_reducible refine Ext.alloc ?_ _ | with_reducible refine Ext.drew ?_ | with_reducible refine Ext.drewN ?_ _ | assumption | exact Ext.refl _ | refine Ext.alloc ?_ _ | refine Ext.set ?_ _ _ | refine Ext.drew ?_ | refine Ext.drewN ?_ _ | refine Ext.below ?_ (by assumption) | refine Ext.trans ?_ (by assumption)))⟩ ?_
            rintro wz ⟨hz, xz⟩
            exact bodyPost_ret (results_ct Try.results98 rfl rfl (load_entry hz)) rfl ⟨congrArg Ending.returned hy.out.symm, below_of1 hz.right.right xz⟩
      · have l00' : (l == 0) = false := by simpa using l00
        have he : unword w l = ⟨true, bitOf w 128, w / 2 % 8, bitOf w 32, bitOf w 64, w / 4096⟩ := by unfold unword; rw [l00']; rfl
        clear l00
        have HC : ∀ X, Calls Try.prog 99 #[.agg #[Value.bool true, Value.bool (bitOf w 128), (Value.int .i64) (w / 2 % 8), Value.bool (bitOf w 32), Value.bool (bitOf w 64), (Value.int .i64) (w / 4096)], .int .i64 l] X (Pure ((Value.int .i64) (decC w l)) X) := fun X => by
          have := entryFault_any (unword w l) l X
          rw [← hd, he] at this
          exact this
        have HC := Lib.hid HC
        have HO7 := Lib.hid (fun X c => show Calls Try.prog 125 #[.int .u64 7, .pointer (some ⟨W.heap.size, 0, none⟩)] X (Same (Value.bool (bitOf w 128)) X) from on_any W.heap.size w 7 X c h0 h1 (by omega))
        have HO5 := Lib.hid (fun X c => show Calls Try.prog 125 #[.int .u64 5, .pointer (some ⟨W.heap.size, 0, none⟩)] X (Same (Value.bool (bitOf w 32)) X) from on_any W.heap.size w 5 X c h0 h1 (by omega))
        have HO6 := Lib.hid (fun X c => show Calls Try.prog 125 #[.int .u64 6, .pointer (some ⟨W.heap.size, 0, none⟩)] X (Same (Value.bool (bitOf w 64)) X) from on_any W.heap.size w 6 X c h0 h1 (by omega))
        rw [he] at hv0
        have hno := Lib.hid (fun hc => decV_no (w := w) (l := l) (c := decC w l) rfl (.inl hc))
        clear hl hd he
        go_upto_region 12 with fail
        clear hmf d0 d1 d2 d3 d4 d5 f0 f1 f2 f3 f4 f5 wz' zl
        have q1 := Lib.hid (show IntKind.i64.wrap ((IntKind.u64.wrap (w.tdiv 2)).tmod 8) = w / 2 % 8 by rw [Int.tdiv_eq_ediv_of_nonneg h0, IntKind.wrap_u64, Int.tmod_eq_emod_of_nonneg (by omega), IntKind.wrap_i64]; omega)
        have q2 := Lib.hid (show IntKind.i64.wrap (IntKind.u64.wrap (w.tdiv 4096)) = w / 4096 by rw [Int.tdiv_eq_ediv_of_nonneg h0, IntKind.wrap_u64, IntKind.wrap_i64]; omega)
        go_cut [9] (fun v wx => v = .pointer (some ⟨W2.heap.size, 0, none⟩) ∧ (W2.alloc (.cells #[Value.bool true, Value.bool (bitOf w 128), (Value.int .i64) (w / 2 % 8), Value.bool (bitOf w 32), Value.bool (bitOf w 64), (Value.int .i64) (w / 4096)] 50)).drew = wx)
        case first =>
          first | (go_region_held (fun w' => w'.cell? ⟨W.heap.size, 0, none⟩ = some ((Value.int .u64) w)) (go_keep) (first | (go_at_call 125; (with_reducible refine (HO7.out _ (by assumption)).mono ?_); rintro e w' ⟨rfl, rfl⟩) | (go_at_call 125; (with_reducible refine (HO5.out _ (by assumption)).mono ?_); rintro e w' ⟨rfl, rfl⟩) | (go_at_call 125; (with_reducible refine (HO6.out _ (by assumption)).mono ?_); rintro e w' ⟨rfl, rfl⟩))) | fail
          all_goals
            go_wp2_with fail
            go_meet
            first | exact ⟨rfl, by rw [q1.out, q2.out]⟩ | (case rel => exact ⟨rfl, by rw [q1.out, q2.out]⟩)
        case rest =>
          obtain ⟨rfl, rfl⟩ := hcut
          have hx := (hw.new #[Value.bool true, Value.bool (bitOf w 128), (Value.int .i64) (w / 2 % 8), Value.bool (bitOf w 32), Value.bool (bitOf w 64), (Value.int .i64) (w / 4096)] 50).drew
          have xx := (xw.alloc (.cells #[Value.bool true, Value.bool (bitOf w 128), (Value.int .i64) (w / 2 % 8), Value.bool (bitOf w 32), Value.bool (bitOf w 64), (Value.int .i64) (w / 4096)] 50)).drew
          clear q1 q2 HO5 HO6 HO7
          by_cases hc : decC w l = 0
          · have hy := Lib.hid (hv0.out hc)
            rw [hc] at HC
            clear hc hv0 hno
            go_wp2_with fail
            refine (HC.out _).mono ?_; rintro e w2 ⟨rfl, bl⟩
            have h2 := hx.below bl
            have x2 := xx.below bl
            obtain ⟨c0, c1, c2, c3, c4, c5⟩ := h2.cells6
            obtain ⟨d0, d1, d2, d3, d4, d5⟩ := h2.right.cells6
            obtain ⟨f0, f1, f2, f3, f4, f5⟩ := h2.right.frees6
            have l2 := h2.right.lt
            clear HC bl hx xx hw xw
            go_wp2
            refine ret_via (fun wz => Has wz (blk (W.heap.size + 1) #[Value.bool true, Value.bool (bitOf w 128), (Value.int .i64) (w / 2 % 8), Value.bool (bitOf w 32), Value.bool (bitOf w 64), (Value.int .i64) (w / 4096)] 50 * (blk W.heap.size #[(Value.int .u64) w] 59 * old W W.heap.size)) ∧ Ext W wz) ⟨h2.right.set6 _ _ _ _ _ _, by (repeat (first | with_reducible assumption | with_reducible exact Ext.refl _ | with_reducible refine Ext.set ?_ _ _ | with_reducible refine Ext.alloc ?_ _ | with_reducible refine Ext.drew ?_ | with_reducible refine Ext.drewN ?_ _ | assumption | exact Ext.refl _ | refine Ext.alloc ?_ _ | refine Ext.set ?_ _ _ | refine Ext.drew ?_ | refine Ext.drewN ?_ _ | refine Ext.below ?_ (by assumption) | refine Ext.trans ?_ (by assumption)))⟩ ?_
            rintro wz ⟨hz, xz⟩
            exact bodyPost_ret (results_ct Try.results98 rfl rfl (load_entry hz)) rfl ⟨congrArg Ending.returned hy.out.symm, below_of1 hz.right.right xz⟩
          · have hy := Lib.hid (hno.out hc)
            have hn : (decC w l != 0) = true := by simpa using hc
            clear hc hv0 hno
            generalize decC w l = c at *
            go_wp2_with fail
            refine (HC.out _).mono ?_; rintro e w2 ⟨rfl, bl⟩
            have h2 := hx.below bl
            have x2 := xx.below bl
            obtain ⟨c0, c1, c2, c3, c4, c5⟩ := h2.cells6
            obtain ⟨d0, d1, d2, d3, d4, d5⟩ := h2.right.cells6
            obtain ⟨f0, f1, f2, f3, f4, f5⟩ := h2.right.frees6
            have l2 := h2.right.lt
            clear HC bl hx xx hw xw
            go_wp2
            refine ret_via (fun wz => Has wz (blk (W.heap.size + 1) #[Value.bool false, Value.bool false, (Value.int .i64) 0, Value.bool false, Value.bool false, (Value.int .i64) 0] 50 * (blk W.heap.size #[(Value.int .u64) w] 59 * old W W.heap.size)) ∧ Ext W wz) ⟨h2.right.set6 _ _ _ _ _ _, by (repeat (first | with_reducible assumption | with_reducible exact Ext.refl _ | with_reducible refine Ext.set ?_ _ _ | with_reducible refine Ext.alloc ?_ _ | with_reducible refine Ext.drew ?_ | with_reducible refine Ext.drewN ?_ _ | assumption | exact Ext.refl _ | refine Ext.alloc ?_ _ | refine Ext.set ?_ _ _ | refine Ext.drew ?_ | refine Ext.drewN ?_ _ | refine Ext.below ?_ (by assumption) | refine Ext.trans ?_ (by assumption)))⟩ ?_
            rintro wz ⟨hz, xz⟩
            exact bodyPost_ret (results_ct Try.results98 rfl rfl (load_entry hz)) rfl ⟨congrArg Ending.returned hy.out.symm, below_of1 hz.right.right xz⟩
end Go.Proofs.Ytegkimecdonfgaa
namespace Go.Proofs.Ytegkimecdonfgaa
open Go.RowKit
set_option maxRecDepth 100000
theorem Has.set8 {w : World} {R : HProp} {b : Nat} {v0 v1 v2 v3 v4 v5 v6 v7 : Value} {t : TypeId} (h : Has w (blk b #[v0, v1, v2, v3, v4, v5, v6, v7] t * R)) (u0 u1 u2 u3 u4 u5 u6 u7 : Value) :
    Has (((((((((w.setCell ⟨b, 0, none⟩ u0).setCell ⟨b, 1, none⟩ u1).setCell ⟨b, 2, none⟩ u2).setCell ⟨b, 3, none⟩ u3).setCell ⟨b, 4, none⟩ u4).setCell ⟨b, 5, none⟩ u5).setCell ⟨b, 6, none⟩ u6).setCell ⟨b, 7, none⟩ u7)) (blk b #[u0, u1, u2, u3, u4, u5, u6, u7] t * R) := by
  have h0 : Has _ (blk b #[u0, v1, v2, v3, v4, v5, v6, v7] t * R) := h.set 0 u0
  have h1 : Has _ (blk b #[u0, u1, v2, v3, v4, v5, v6, v7] t * R) := h0.set 1 u1
  have h2 : Has _ (blk b #[u0, u1, u2, v3, v4, v5, v6, v7] t * R) := h1.set 2 u2
  have h3 : Has _ (blk b #[u0, u1, u2, u3, v4, v5, v6, v7] t * R) := h2.set 3 u3
  have h4 : Has _ (blk b #[u0, u1, u2, u3, u4, v5, v6, v7] t * R) := h3.set 4 u4
  have h5 : Has _ (blk b #[u0, u1, u2, u3, u4, u5, v6, v7] t * R) := h4.set 5 u5
  have h6 : Has _ (blk b #[u0, u1, u2, u3, u4, u5, u6, v7] t * R) := h5.set 6 u6
  have h7 : Has _ (blk b #[u0, u1, u2, u3, u4, u5, u6, u7] t * R) := h6.set 7 u7
  exact h7
theorem Has.cells8 {w : World} {R : HProp} {b : Nat} {v0 v1 v2 v3 v4 v5 v6 v7 : Value} {t : TypeId} (h : Has w (blk b #[v0, v1, v2, v3, v4, v5, v6, v7] t * R)) :
    w.cell? ⟨b, 0, none⟩ = some v0 ∧ w.cell? ⟨b, 1, none⟩ = some v1 ∧ w.cell? ⟨b, 2, none⟩ = some v2 ∧ w.cell? ⟨b, 3, none⟩ = some v3 ∧ w.cell? ⟨b, 4, none⟩ = some v4 ∧ w.cell? ⟨b, 5, none⟩ = some v5 ∧ w.cell? ⟨b, 6, none⟩ = some v6 ∧ w.cell? ⟨b, 7, none⟩ = some v7 :=
  ⟨h.cell 0, h.cell 1, h.cell 2, h.cell 3, h.cell 4, h.cell 5, h.cell 6, h.cell 7⟩
theorem Has.frees8 {w : World} {R : HProp} {b : Nat} {v0 v1 v2 v3 v4 v5 v6 v7 : Value} {t : TypeId} (h : Has w (blk b #[v0, v1, v2, v3, v4, v5, v6, v7] t * R)) :
    w.frozen? ⟨b, 0, none⟩ = false ∧ w.frozen? ⟨b, 1, none⟩ = false ∧ w.frozen? ⟨b, 2, none⟩ = false ∧ w.frozen? ⟨b, 3, none⟩ = false ∧ w.frozen? ⟨b, 4, none⟩ = false ∧ w.frozen? ⟨b, 5, none⟩ = false ∧ w.frozen? ⟨b, 6, none⟩ = false ∧ w.frozen? ⟨b, 7, none⟩ = false :=
  ⟨h.free 0, h.free 1, h.free 2, h.free 3, h.free 4, h.free 5, h.free 6, h.free 7⟩
theorem Ext.set8 {w0 w : World} (h : Ext w0 w) (b : Nat) (u0 u1 u2 u3 u4 u5 u6 u7 : Value) : Ext w0 (((((((((w.setCell ⟨b, 0, none⟩ u0).setCell ⟨b, 1, none⟩ u1).setCell ⟨b, 2, none⟩ u2).setCell ⟨b, 3, none⟩ u3).setCell ⟨b, 4, none⟩ u4).setCell ⟨b, 5, none⟩ u5).setCell ⟨b, 6, none⟩ u6).setCell ⟨b, 7, none⟩ u7)) :=
  ((((((((h.set _ _).set _ _).set _ _).set _ _).set _ _).set _ _).set _ _).set _ _)
theorem way_copy {w : World} {A X O : HProp} {b r : Nat} {v0 v1 v2 v3 v4 v5 v6 v7 z0 z1 z2 z3 z4 z5 z6 z7 : Value} {t : TypeId} (h : Has w (A * (blk b #[v0, v1, v2, v3, v4, v5, v6, v7] t * (X * (blk r #[z0, z1, z2, z3, z4, z5, z6, z7] t * O))))) (u1 u2 u3 u4 u5 u6 : Value) :
    Has ((((((((((((((w.setCell ⟨b, 1, none⟩ u1).setCell ⟨b, 2, none⟩ u2).setCell ⟨b, 3, none⟩ u3).setCell ⟨b, 4, none⟩ u4).setCell ⟨b, 5, none⟩ u5).setCell ⟨b, 6, none⟩ u6).setCell ⟨r, 0, none⟩ v0).setCell ⟨r, 1, none⟩ u1).setCell ⟨r, 2, none⟩ u2).setCell ⟨r, 3, none⟩ u3).setCell ⟨r, 4, none⟩ u4).setCell ⟨r, 5, none⟩ u5).setCell ⟨r, 6, none⟩ u6).setCell ⟨r, 7, none⟩ v7) (blk r #[v0, u1, u2, u3, u4, u5, u6, v7] t * (A * O)) := by
  have h1 := h.drop3
  rw [star_left_comm A] at h1
  have s1 : Has _ (blk b #[v0, u1, v2, v3, v4, v5, v6, v7] t * _) := h1.set 1 u1
  have s2 : Has _ (blk b #[v0, u1, u2, v3, v4, v5, v6, v7] t * _) := s1.set 2 u2
  have s3 : Has _ (blk b #[v0, u1, u2, u3, v4, v5, v6, v7] t * _) := s2.set 3 u3
  have s4 : Has _ (blk b #[v0, u1, u2, u3, u4, v5, v6, v7] t * _) := s3.set 4 u4
  have s5 : Has _ (blk b #[v0, u1, u2, u3, u4, u5, v6, v7] t * _) := s4.set 5 u5
  have s6 : Has _ (blk b #[v0, u1, u2, u3, u4, u5, u6, v7] t * _) := s5.set 6 u6
  have h2 := s6.right
  rw [star_left_comm A] at h2
  exact h2.set8 _ _ _ _ _ _ _ _
theorem load_way {w : World} {R : HProp} {b : Nat} {v0 v1 v2 v3 v4 v5 v6 v7 : Value} (h : Has w (blk b #[v0, v1, v2, v3, v4, v5, v6, v7] 112 * R)) : (loadVar 112 ⟨b, 0, none⟩).run Try.prog w = .ok (.agg #[v0, v1, v2, v3, v4, v5, v6, v7]) w :=
  run_loadVar_row w b 112 112 _ _ _ h.heap Try.underlying112 rfl (by kernel_rfl)
theorem way_set0 {w : World} {A C : HProp} {b : Nat} {v0 v1 v2 v3 v4 v5 v6 v7 : Value} {t : TypeId} (h : Has w (A * (blk b #[v0, v1, v2, v3, v4, v5, v6, v7] t * C))) (u : Value) :
    Has (w.setCell ⟨b, 0, none⟩ u) (A * (blk b #[u, v1, v2, v3, v4, v5, v6, v7] t * C)) := by
  rw [star_left_comm A] at h
  have h1 : Has _ (blk b #[u, v1, v2, v3, v4, v5, v6, v7] t * _) := h.set 0 u
  rw [star_left_comm A]
  exact h1
theorem way_set7 {w : World} {A C : HProp} {b : Nat} {v0 v1 v2 v3 v4 v5 v6 v7 : Value} {t : TypeId} (h : Has w (A * (blk b #[v0, v1, v2, v3, v4, v5, v6, v7] t * C))) (u : Value) :
    Has (w.setCell ⟨b, 7, none⟩ u) (A * (blk b #[v0, v1, v2, v3, v4, v5, v6, u] t * C)) := by
  rw [star_left_comm A] at h
  have h1 : Has _ (blk b #[v0, v1, v2, v3, v4, v5, v6, u] t * _) := h.set 7 u
  rw [star_left_comm A]
  exact h1
theorem way_snoc {w : World} {u : Value} {l : List Int} {x : Int} {C : HProp} (h : Has w (row 3 1 u (l.length + 1) (l.map (Value.int .i64) ++ [(Value.int .i64) x]) * C)) : Has w (irow u (l ++ [x]) * C) := by
  unfold irow
  rw [List.length_append, List.length_singleton, List.map_append]
  exact h
theorem ent_set {w : World} {A B C : HProp} {b : Nat} {z0 z1 z2 z3 z4 z5 : Value} {t : TypeId} (h : Has w (A * (B * (blk b #[z0, z1, z2, z3, z4, z5] t * C)))) (u0 u1 u2 u3 u4 u5 : Value) :
    Has ((((((w.setCell ⟨b, 0, none⟩ u0).setCell ⟨b, 1, none⟩ u1).setCell ⟨b, 2, none⟩ u2).setCell ⟨b, 3, none⟩ u3).setCell ⟨b, 4, none⟩ u4).setCell ⟨b, 5, none⟩ u5) (A * (B * (blk b #[u0, u1, u2, u3, u4, u5] t * C))) := by
  rw [star_left_comm B, star_left_comm A] at h
  have h1 := h.set6 u0 u1 u2 u3 u4 u5
  rw [star_left_comm B, star_left_comm A]
  exact h1
def wayV (y : Wy) (A : Option Addr) (n c : Nat) : Value := .tuple #[.agg #[.slice A n c, Value.bool y.e.there, Value.bool y.e.leaf, (Value.int .i64) y.e.rights, Value.bool y.e.used, Value.bool y.e.dirty, (Value.int .i64) y.e.frame, (Value.int .i64) y.lev], (Value.int .i64) y.code]
def FoundRef (y : Wy) (w : World) (e : Ending) (w' : World) : Prop :=
  ∃ A c, e = .returned (wayV y A y.tabs.length c) ∧ Has w' (irow (.slice A y.tabs.length c) y.tabs * old w w.heap.size) ∧ Ext w w'
/-- The level that stands in a way. -/
def levR (w : World) (b : Nat) : Nat := match w.cell? ⟨b, 7, none⟩ with | some (.int _ n) => n.toNat | _ => 0
set_option maxHeartbeats 4000000 in
theorem wayTo_any (q : Nat) (s : Ms) (root p : Int) (R : HProp) (w : World) (hs : s.Ok) (h : Has w (memAt q s * R)) :
    Calls Try.prog 65 #[.pointer (some ⟨q, 0, none⟩), .int .i64 root, .int .i64 p] w (FoundRef (way s root p) w) := by
  have h1 := (has_old w).new #[.slice none 0 0, Value.bool false, Value.bool false, (Value.int .i64) 0, Value.bool false, Value.bool false, (Value.int .i64) 0, (Value.int .i64) 0] 112
  have x1 := (Ext.refl w).alloc (.cells #[.slice none 0 0, Value.bool false, Value.bool false, (Value.int .i64) 0, Value.bool false, Value.bool false, (Value.int .i64) 0, (Value.int .i64) 0] 112)
  cases hp : hasB p with
  | false =>
    have hy := Lib.hid (show way s root p = .err 1 by unfold way; rw [hp]; rfl)
    by_cases p0 : p < 0
    · go_enter Try.func65, Try.ntmps65
      go_wp2_with fail
      refine ret_via (fun wz => Has wz (blk w.heap.size #[.slice none 0 0, Value.bool false, Value.bool false, (Value.int .i64) 0, Value.bool false, Value.bool false, (Value.int .i64) 0, (Value.int .i64) 0] 112 * old w w.heap.size) ∧ Ext w wz) ⟨h1, x1⟩ ?_
      rintro wz ⟨hz, xz⟩
      exact bodyPost_ret (results_ct Try.results65 rfl rfl (load_way hz)) rfl ⟨none, 0, by rw [hy.out]; rfl, by rw [hy.out]; exact Has.rowNil hz.right, xz⟩
    · have p4 : 4096 ≤ p := by unfold hasB at hp; simp at hp; omega
      go_enter Try.func65, Try.ntmps65
      go_wp2_with fail
      refine ret_via (fun wz => Has wz (blk w.heap.size #[.slice none 0 0, Value.bool false, Value.bool false, (Value.int .i64) 0, Value.bool false, Value.bool false, (Value.int .i64) 0, (Value.int .i64) 0] 112 * old w w.heap.size) ∧ Ext w wz) ⟨h1, x1⟩ ?_
      rintro wz ⟨hz, xz⟩
      exact bodyPost_ret (results_ct Try.results65 rfl rfl (load_way hz)) rfl ⟨none, 0, by rw [hy.out]; rfl, by rw [hy.out]; exact Has.rowNil hz.right, xz⟩
  | true =>
    have hp' : 0 ≤ p ∧ p < 4096 := by unfold hasB at hp; simpa using hp
    obtain ⟨p0, p4⟩ := hp'
    have hwy := Lib.hid (show way s root p = wayA s p 3 root [] by unfold way; rw [if_pos hp])
    have h2 := h1.new #[.slice none 0 0, Value.bool false, Value.bool false, (Value.int .i64) 0, Value.bool false, Value.bool false, (Value.int .i64) 0, (Value.int .i64) 3] 112
    have x2 := x1.alloc (.cells #[.slice none 0 0, Value.bool false, Value.bool false, (Value.int .i64) 0, Value.bool false, Value.bool false, (Value.int .i64) 0, (Value.int .i64) 3] 112)
    simp only [World.size_alloc] at h2
    have h3 : Has ((w.alloc (.cells #[.slice none 0 0, Value.bool false, Value.bool false, (Value.int .i64) 0, Value.bool false, Value.bool false, (Value.int .i64) 0, (Value.int .i64) 0] 112)).alloc (.cells #[.slice none 0 0, Value.bool false, Value.bool false, (Value.int .i64) 0, Value.bool false, Value.bool false, (Value.int .i64) 0, (Value.int .i64) 3] 112))
        (irow (.slice none 0 0) [] * (blk (w.heap.size + 1) #[.slice none 0 0, Value.bool false, Value.bool false, (Value.int .i64) 0, Value.bool false, Value.bool false, (Value.int .i64) 0, (Value.int .i64) 3] 112 * (blk w.heap.size #[.slice none 0 0, Value.bool false, Value.bool false, (Value.int .i64) 0, Value.bool false, Value.bool false, (Value.int .i64) 0, (Value.int .i64) 0] 112 * old w w.heap.size))) := Has.rowNil h2
    clear h1 x1 h2
    go_enter Try.func65, Try.ntmps65
    go_wp2_with fail
    go_loopw [9] (fun s9 wr => ∃ (L : Nat) (t : Int) (acc : List Int) (A : Option Addr) (c : Nat), s9 = (Value.int .i64) t ∧ acc.length + L = 3 ∧ Hid (wayA s p 3 root [] = wayA s p L t acc) ∧
        Has wr (irow (.slice A acc.length c) acc * (blk (w.heap.size + 1) #[.slice A acc.length c, Value.bool false, Value.bool false, (Value.int .i64) 0, Value.bool false, Value.bool false, (Value.int .i64) 0, (Value.int .i64) L] 112 * (blk w.heap.size #[.slice none 0 0, Value.bool false, Value.bool false, (Value.int .i64) 0, Value.bool false, Value.bool false, (Value.int .i64) 0, (Value.int .i64) 0] 112 * old w w.heap.size))) ∧ Ext w wr)
      (fun _ wr => levR wr (w.heap.size + 1))
    case atStart => exact ⟨3, root, [], none, 0, rfl, rfl, Lib.hid rfl, h3, x2⟩
    case round =>
      clear h3 x2
      obtain ⟨L, t, acc, A, c, rfl, hL, HW, hr, hx⟩ := hrel
      have hlev := Lib.hid (show levR wr (w.heap.size + 1) = L by unfold levR; rw [hr.right.cell 7]; rfl)
      have hL3 : (L : Int) ≤ 3 := by omega
      have hL0 : (0 : Int) ≤ L := by omega
      have hM : Has wr (memAt q s * R) := (h.onto' (hr.eq (show _ = (irow (.slice A acc.length c) acc * (blk (w.heap.size + 1) #[.slice A acc.length c, Value.bool false, Value.bool false, (Value.int .i64) 0, Value.bool false, Value.bool false, (Value.int .i64) 0, (Value.int .i64) L] 112 * blk w.heap.size #[.slice none 0 0, Value.bool false, Value.bool false, (Value.int .i64) 0, Value.bool false, Value.bool false, (Value.int .i64) 0, (Value.int .i64) 0] 112)) * old w w.heap.size by simp only [star_assoc]))).right
      have hTK := takenM q s t R wr hM
      cases ht : s.has t with
      | false =>
        rw [ht] at hTK
        have hy := Lib.hid (show way s root p = .err 12 by rw [hwy.out, HW.out]; exact wayA_free ht)
        clear ht
        obtain ⟨r0, r1, r2, r3, r4, r5, r6, r7⟩ := hr.right.right.cells8
        obtain ⟨g0, g1, g2, g3, g4, g5, g6, g7⟩ := hr.right.right.frees8
        have rl := hr.right.right.lt
        go_wp2_with fail
        refine hTK.mono ?_; rintro e w2 ⟨rfl, rfl⟩
        go_wp2_with fail
        refine ret_via (fun wz => Has wz (blk w.heap.size #[.slice none 0 0, Value.bool false, Value.bool false, (Value.int .i64) 0, Value.bool false, Value.bool false, (Value.int .i64) 0, (Value.int .i64) 0] 112 * old w w.heap.size) ∧ Ext w wz) ⟨hr.right.right.set8 _ _ _ _ _ _ _ _, hx.set8 _ _ _ _ _ _ _ _ _⟩ ?_
        rintro wz ⟨hz, xz⟩
        exact bodyPost_ret (results_ct Try.results65 rfl rfl (load_way hz)) rfl ⟨none, 0, by rw [hy.out]; rfl, by rw [hy.out]; exact Has.rowNil hz.right, xz⟩
      | true =>
        rw [ht] at hTK
        obtain ⟨i0, i8⟩ := index_le hp hL0 hL3
        obtain ⟨k0, k1, _⟩ := Ms.has_iff.1 ht
        obtain ⟨gw, gi, vk, hq⟩ := memAt_open hM
        have hb := hs.inv.wok t.toNat (index p L).toNat
        have HD := Lib.hid (fun W => entryOf_any (wordV s t (index p L)) L W hb.1 hb.2)
        have HI := Lib.hid (indexOf_any p L)
        have hq0 := hq.cell 0
        have hword : wr.cell? ⟨gw, t.toNat * 8 + (index p L).toNat, none⟩ = some ((Value.int .u64) (wordV s t (index p L))) := mem_word hq (k := t.toNat) (i := (index p L).toNat) (by omega) (by omega)
        have ql := hq.lt
        have gl := hq.right.lt
        have cl := hr.right.lt
        clear hb hM
        have c7 : wr.cell? ⟨w.heap.size + 1, 7, none⟩ = some ((Value.int .i64) L) := hr.right.cell 7
        have hy := Lib.hid (show way s root p = wayA s p L t acc by rw [hwy.out, HW.out])
        have hbad := Lib.hid (fun he => wayA_bad (acc := acc) (L := L) (p := p) ht he)
        have hend := Lib.hid (fun hc he => wayA_end (acc := acc) (L := L) (p := p) ht hc he)
        have hon := Lib.hid (fun hc he => wayA_on (acc := acc) (L := L) (p := p) ht hc he)
        have hzero := Lib.hid (fun hc => decE_fault (w := wordV s t (index p L)) (l := L) hc)
        unfold decV at HD
        clear HW ht
        generalize decC (wordV s t (index p L)) L = code at *
        generalize decE (wordV s t (index p L)) L = e at *
        generalize wordV s t (index p L) = v at *
        generalize index p L = ix at *
        obtain ⟨t, rfl⟩ := Int.eq_ofNat_of_zero_le k0
        obtain ⟨ix, rfl⟩ := Int.eq_ofNat_of_zero_le i0
        simp only [Int.toNat_natCast] at hword
        have hSB : ∀ (w1 w2 : World), Below w1.heap.size w1 w2 → (w1.cell? ⟨q, 0, none⟩ = some (.slice (some ⟨gw, 0, none⟩) s.n s.n) ∧ w1.cell? ⟨gw, t * 8 + ix, none⟩ = some ((Value.int .u64) v) ∧ w1.cell? ⟨w.heap.size + 1, 7, none⟩ = some ((Value.int .i64) L)) → w2.cell? ⟨q, 0, none⟩ = some (.slice (some ⟨gw, 0, none⟩) s.n s.n) ∧ w2.cell? ⟨gw, t * 8 + ix, none⟩ = some ((Value.int .u64) v) ∧ w2.cell? ⟨w.heap.size + 1, 7, none⟩ = some ((Value.int .i64) L) := fun w1 w2 b h =>
          ⟨(b.cell (World.block_lt_of_cell? _ _ h.1)).trans h.1, (b.cell (World.block_lt_of_cell? _ _ h.2.1)).trans h.2.1, (b.cell (World.block_lt_of_cell? _ _ h.2.2)).trans h.2.2⟩
        have HSB := Lib.hid hSB
        have hSA : ∀ (w1 : World) (o : Obj), (w1.cell? ⟨q, 0, none⟩ = some (.slice (some ⟨gw, 0, none⟩) s.n s.n) ∧ w1.cell? ⟨gw, t * 8 + ix, none⟩ = some ((Value.int .u64) v) ∧ w1.cell? ⟨w.heap.size + 1, 7, none⟩ = some ((Value.int .i64) L)) → (w1.alloc o).cell? ⟨q, 0, none⟩ = some (.slice (some ⟨gw, 0, none⟩) s.n s.n) ∧ (w1.alloc o).cell? ⟨gw, t * 8 + ix, none⟩ = some ((Value.int .u64) v) ∧ (w1.alloc o).cell? ⟨w.heap.size + 1, 7, none⟩ = some ((Value.int .i64) L) := fun w1 o h =>
          hSB w1 (w1.alloc o) ((Below.refl _ _).alloc (Nat.le_refl _) _) h
        have HSA := Lib.hid hSA
        have hS6 : ∀ (w1 : World) (E : Nat) (u0 u1 u2 u3 u4 u5 : Value), E ≠ q → E ≠ gw → E ≠ w.heap.size + 1 → (w1.cell? ⟨q, 0, none⟩ = some (.slice (some ⟨gw, 0, none⟩) s.n s.n) ∧ w1.cell? ⟨gw, t * 8 + ix, none⟩ = some ((Value.int .u64) v) ∧ w1.cell? ⟨w.heap.size + 1, 7, none⟩ = some ((Value.int .i64) L)) → ((((((w1.setCell ⟨E, 0, none⟩ u0).setCell ⟨E, 1, none⟩ u1).setCell ⟨E, 2, none⟩ u2).setCell ⟨E, 3, none⟩ u3).setCell ⟨E, 4, none⟩ u4).setCell ⟨E, 5, none⟩ u5).cell? ⟨q, 0, none⟩ = some (.slice (some ⟨gw, 0, none⟩) s.n s.n) ∧ ((((((w1.setCell ⟨E, 0, none⟩ u0).setCell ⟨E, 1, none⟩ u1).setCell ⟨E, 2, none⟩ u2).setCell ⟨E, 3, none⟩ u3).setCell ⟨E, 4, none⟩ u4).setCell ⟨E, 5, none⟩ u5).cell? ⟨gw, t * 8 + ix, none⟩ = some ((Value.int .u64) v) ∧ ((((((w1.setCell ⟨E, 0, none⟩ u0).setCell ⟨E, 1, none⟩ u1).setCell ⟨E, 2, none⟩ u2).setCell ⟨E, 3, none⟩ u3).setCell ⟨E, 4, none⟩ u4).setCell ⟨E, 5, none⟩ u5).cell? ⟨w.heap.size + 1, 7, none⟩ = some ((Value.int .i64) L) := fun w1 E u0 u1 u2 u3 u4 u5 e1 e2 e3 h => by
          refine ⟨?_, ?_, ?_⟩
          · iterate 6 rw [World.cell?_setCell_far _ _ _ _ e1]
            exact h.1
          · iterate 6 rw [World.cell?_setCell_far _ _ _ _ e2]
            exact h.2.1
          · iterate 6 rw [World.cell?_setCell_far _ _ _ _ e3]
            exact h.2.2
        have HS6 := Lib.hid hS6
        clear hSB hSA hS6
        go_wp2_with fail
        refine hTK.mono ?_; rintro e2 w2 ⟨rfl, rfl⟩
        go_upto_region 7 with fail
        go_cut [10, 11] (fun s10 s11 wx => ∃ E : Nat, s10 = .pointer (some ⟨E, 0, none⟩) ∧ s11 = (Value.int .i64) code ∧ Has wx (irow (.slice A acc.length c) acc * (blk (w.heap.size + 1) #[.slice A acc.length c, Value.bool false, Value.bool false, (Value.int .i64) 0, Value.bool false, Value.bool false, (Value.int .i64) 0, (Value.int .i64) L] 112 * (blk E #[Value.bool e.there, Value.bool e.leaf, (Value.int .i64) e.rights, Value.bool e.used, Value.bool e.dirty, (Value.int .i64) e.frame] 50 * (blk w.heap.size #[.slice none 0 0, Value.bool false, Value.bool false, (Value.int .i64) 0, Value.bool false, Value.bool false, (Value.int .i64) 0, (Value.int .i64) 0] 112 * old w w.heap.size)))) ∧ Ext w wx)
        case first =>
          have n1 := World.new_ne wr _ hq0
          have n2 := World.new_ne wr _ hword
          have n3 := World.new_ne wr _ c7
          go_wp2_with fail
          go_region_held3 (fun w' => w'.cell? ⟨q, 0, none⟩ = some (.slice (some ⟨gw, 0, none⟩) s.n s.n) ∧ w'.cell? ⟨gw, t * 8 + ix, none⟩ = some ((Value.int .u64) v) ∧ w'.cell? ⟨w.heap.size + 1, 7, none⟩ = some ((Value.int .i64) L)) (first | with_reducible exact ⟨hq0, hword, c7⟩ | with_reducible exact s6 | with_reducible exact s5 | (with_reducible exact HSA.out _ _ ⟨hq0, hword, c7⟩) | (with_reducible exact HSA.out _ _ s5) | (with_reducible exact HSA.out _ _ s6) | (with_reducible refine HS6.out _ _ _ _ _ _ _ _ ?_ ?_ ?_ s6; (first | exact n1 | exact World.new_ne w5 _ s5.1); (first | exact n2 | exact World.new_ne w5 _ s5.2.1); (first | exact n3 | exact World.new_ne w5 _ s5.2.2)) | exact HSA.out wr (.cells #[Value.bool false, Value.bool false, (Value.int .i64) 0, Value.bool false, Value.bool false, (Value.int .i64) 0] 50) ⟨hq0, hword, c7⟩ | exact ⟨hq0, hword, c7⟩) (first | (go_at_call 67; refine (HI.out _).mono ?_; rintro e2 w5 ⟨rfl, b5⟩; have s5 := HSB.out _ _ b5 (by first | with_reducible exact ⟨hq0, hword, c7⟩ | exact HSA.out wr (.cells #[Value.bool false, Value.bool false, (Value.int .i64) 0, Value.bool false, Value.bool false, (Value.int .i64) 0] 50) ⟨hq0, hword, c7⟩ | exact ⟨hq0, hword, c7⟩); first | (have z5 := Has.below (Has.drew (Has.new (has_old wr) #[Value.bool false, Value.bool false, (Value.int .i64) 0, Value.bool false, Value.bool false, (Value.int .i64) 0] 50)) b5) | skip) | (go_at_call 98; refine (HD.out _).mono ?_; rintro e2 w6 ⟨rfl, b6⟩; have s6 := HSB.out _ _ b6 (by first | exact s5 | exact HSA.out _ _ s5); first | (have z6 := z5.below b6; obtain ⟨q0, q1, q2, q3, q4, q5⟩ := z6.cells6; obtain ⟨y0, y1, y2, y3, y4, y5⟩ := z6.frees6; have zl := z6.lt) | (have z6 := Has.below (Has.new (has_old w5) #[Value.bool false, Value.bool false, (Value.int .i64) 0, Value.bool false, Value.bool false, (Value.int .i64) 0] 50) b6; obtain ⟨q0, q1, q2, q3, q4, q5⟩ := z6.cells6; obtain ⟨y0, y1, y2, y3, y4, y5⟩ := z6.frees6; have zl := z6.lt) | skip))
          all_goals
            go_wp2_with fail
            go_meet
            case rel => first
              | with_reducible exact ⟨w6.heap.size, rfl, rfl, ((hr.drew.below b5).below b6).build #[Value.bool e.there, Value.bool e.leaf, (Value.int .i64) e.rights, Value.bool e.used, Value.bool e.dirty, (Value.int .i64) e.frame] 50, ((hx.drew.below b5).below b6).alloc _⟩
              | with_reducible exact ⟨w5.heap.size, rfl, rfl, ent_set (((hr.drew.below b5).build #[Value.bool false, Value.bool false, (Value.int .i64) 0, Value.bool false, Value.bool false, (Value.int .i64) 0] 50).below b6) _ _ _ _ _ _, ((((((((hx.drew.below b5).alloc _).below b6).set _ _).set _ _).set _ _).set _ _).set _ _).set _ _⟩
              | with_reducible exact ⟨wr.heap.size, rfl, rfl, ent_set (((hr.build #[Value.bool false, Value.bool false, (Value.int .i64) 0, Value.bool false, Value.bool false, (Value.int .i64) 0] 50).drew.below b5).below b6) _ _ _ _ _ _, ((((((((hx.alloc _).drew.below b5).below b6).set _ _).set _ _).set _ _).set _ _).set _ _).set _ _⟩
              | trace_state
        case rest =>
          obtain ⟨E, rfl, rfl, hr2, hx2⟩ := hcut
          clear hr hx hq hq0 hword ql gl cl c7 hTK HI HD HSB HSA HS6
          obtain ⟨c0, c1, c2, c3, c4, c5, c6, c7⟩ := hr2.right.cells8
          obtain ⟨f0, f1, f2, f3, f4, f5, f6, f7⟩ := hr2.right.frees8
          have cl := hr2.right.lt
          obtain ⟨e0, e1, e2, e3, e4, e5⟩ := hr2.right.right.cells6
          have el := hr2.right.right.lt
          have hE := hr2.right.right.right
          obtain ⟨r0, r1, r2, r3, r4, r5, r6, r7⟩ := hE.cells8
          obtain ⟨g0, g1, g2, g3, g4, g5, g6, g7⟩ := hE.frees8
          have rl := hE.lt
          have hne : w.heap.size + 1 ≠ w.heap.size := by omega
          by_cases hc : code = 0
          case neg =>
            have hyy := Lib.hid (hy.out.trans (hbad.out hc))
            clear hy
            have hy := hyy
            have hn : (code != 0) = true := by simpa using hc
            go_wp2_with fail
            refine ret_via (fun wz => Has wz (blk w.heap.size #[.slice none 0 0, Value.bool false, Value.bool false, (Value.int .i64) 0, Value.bool false, Value.bool false, (Value.int .i64) 0, (Value.int .i64) 0] 112 * old w w.heap.size) ∧ Ext w wz) ⟨hE.set8 _ _ _ _ _ _ _ _, hx2.set8 _ _ _ _ _ _ _ _ _⟩ ?_
            rintro wz ⟨hz, xz⟩
            exact bodyPost_ret (results_ct Try.results65 rfl rfl (load_way hz)) rfl ⟨none, 0, by rw [hy.out]; rfl, by rw [hy.out]; exact Has.rowNil hz.right, xz⟩
          subst hc
          have hrow := hr2.alloc (.cells #[(Value.int .i64) (t : Int)] 3)
          clear r0 r1 r2 r3 r4 r5 r6 r7 g0 g1 g2 g3 g4 g5 g6 g7
          go_upto_region 10 with fail
          go_cut [] (fun wx => ∃ (A' : Option Addr) (c' : Nat), Has wx (irow (.slice A' (acc.length + 1) c') (acc ++ [(t : Int)]) * (blk (w.heap.size + 1) #[.slice A' (acc.length + 1) c', Value.bool false, Value.bool false, (Value.int .i64) 0, Value.bool false, Value.bool false, (Value.int .i64) 0, (Value.int .i64) L] 112 * (blk E #[Value.bool e.there, Value.bool e.leaf, (Value.int .i64) e.rights, Value.bool e.used, Value.bool e.dirty, (Value.int .i64) e.frame] 50 * (blk w.heap.size #[.slice none 0 0, Value.bool false, Value.bool false, (Value.int .i64) 0, Value.bool false, Value.bool false, (Value.int .i64) 0, (Value.int .i64) 0] 112 * old w w.heap.size)))) ∧ Ext w wx)
          case first =>
            go_wp2_with (at_builtin; refine wpList_append_has rfl _ _ 36 rfl Try.underlying36 elemI _ _ _ rfl hrow ⟨wc.heap.size, 0, none⟩ 1 1 [(Value.int .i64) (t : Int)] rfl rfl (news_one _ _ _) ?k1 ?k2 ?k3 ?_)
            case k1 => rfl
            case k2 => unfold maxLen; omega
            case k3 => omega
            intro v' w7 h7 x7
            obtain ⟨A', c', rfl⟩ := h7.rowForm
            have y0 := h7.right.cell 0
            have y1 := h7.right.free 0
            have yl := h7.right.lt
            go_wp2_with fail
            go_meet
            case rel => exact ⟨A', c', way_snoc (way_set0 h7 _), ((hx2.alloc _).trans x7).set _ _⟩
          case rest =>
            obtain ⟨A', c', hr, hx⟩ := hcut
            clear hr2 hx2 hrow c0 c1 c2 c3 c4 c5 c6 c7 f0 f1 f2 f3 f4 f5 f6 f7 cl e0 e1 e2 e3 e4 e5 el hE rl
            obtain ⟨c0, c1, c2, c3, c4, c5, c6, c7⟩ := hr.right.cells8
            obtain ⟨f0, f1, f2, f3, f4, f5, f6, f7⟩ := hr.right.frees8
            have cl := hr.right.lt
            obtain ⟨e0, e1, e2, e3, e4, e5⟩ := hr.right.right.cells6
            have el := hr.right.right.lt
            have hE := hr.right.right.right
            obtain ⟨r0, r1, r2, r3, r4, r5, r6, r7⟩ := hE.cells8
            obtain ⟨g0, g1, g2, g3, g4, g5, g6, g7⟩ := hE.frees8
            have rl := hE.lt
            by_cases hend1 : e.there = false ∨ e.leaf = true
            · have hyy := Lib.hid (hy.out.trans (hend.out rfl hend1))
              obtain ⟨th, lf, rg, us, di, fr⟩ := e
              dsimp only at *
              cases th with
              | false =>
                go_wp2_with fail
                refine ret_via (fun wz => Has wz (blk w.heap.size #[.slice A' (acc.length + 1) c', Value.bool false, Value.bool lf, (Value.int .i64) rg, Value.bool us, Value.bool di, (Value.int .i64) fr, (Value.int .i64) L] 112 * (irow (.slice A' (acc.length + 1) c') (acc ++ [(t : Int)]) * old w w.heap.size)) ∧ Ext w wz) ⟨way_copy hr _ _ _ _ _ _, Ext.set8 ((((((hx.set _ _).set _ _).set _ _).set _ _).set _ _).set _ _) _ _ _ _ _ _ _ _ _⟩ ?_
                rintro wz ⟨hz, xz⟩
                have hlen : (acc ++ [(t : Int)]).length = acc.length + 1 := by rw [List.length_append, List.length_singleton]
                refine bodyPost_ret (results_ct Try.results65 rfl rfl (load_way hz)) rfl ?_
                rw [hyy.out]
                refine ⟨A', c', ?_, ?_, xz⟩
                · show _ = Ending.returned (wayV _ A' (acc ++ [(t : Int)]).length c')
                  rw [hlen]
                  rfl
                · show Has wz (irow (.slice A' (acc ++ [(t : Int)]).length c') (acc ++ [(t : Int)]) * old w w.heap.size)
                  rw [hlen]
                  exact hz.right
              | true =>
                cases lf with
                | true =>
                  go_wp2_with fail
                  refine ret_via (fun wz => Has wz (blk w.heap.size #[.slice A' (acc.length + 1) c', Value.bool true, Value.bool true, (Value.int .i64) rg, Value.bool us, Value.bool di, (Value.int .i64) fr, (Value.int .i64) L] 112 * (irow (.slice A' (acc.length + 1) c') (acc ++ [(t : Int)]) * old w w.heap.size)) ∧ Ext w wz) ⟨way_copy hr _ _ _ _ _ _, Ext.set8 ((((((hx.set _ _).set _ _).set _ _).set _ _).set _ _).set _ _) _ _ _ _ _ _ _ _ _⟩ ?_
                  rintro wz ⟨hz, xz⟩
                  have hlen : (acc ++ [(t : Int)]).length = acc.length + 1 := by rw [List.length_append, List.length_singleton]
                  refine bodyPost_ret (results_ct Try.results65 rfl rfl (load_way hz)) rfl ?_
                  rw [hyy.out]
                  refine ⟨A', c', ?_, ?_, xz⟩
                  · show _ = Ending.returned (wayV _ A' (acc ++ [(t : Int)]).length c')
                    rw [hlen]
                    rfl
                  · show Has wz (irow (.slice A' (acc ++ [(t : Int)]).length c') (acc ++ [(t : Int)]) * old w w.heap.size)
                    rw [hlen]
                    exact hz.right
                | false => rcases hend1 with h | h <;> cases h
            · have h12 : e.there = true ∧ e.leaf = false := by
                cases h1 : e.there <;> cases h2 : e.leaf <;> simp_all
              obtain ⟨h1, h2⟩ := h12
              obtain ⟨K, rfl, hK⟩ := hon.out rfl hend1
              have hwr : IntKind.i64.wrap (((K + 1 : Nat) : Int) - 1) = (K : Int) := by rw [IntKind.wrap_i64]; omega
              go_wp2_with fail
              go_roundw
              case rel =>
                refine ⟨K, e.frame, acc ++ [(t : Int)], A', c', rfl, by rw [List.length_append, List.length_singleton]; omega, Lib.hid ?_, ?_, hx.set _ _⟩
                · rw [← hK, ← hy.out, ← hwy.out]
                · rw [List.length_append, List.length_singleton]
                  exact (way_set7 hr _).drop3
              case measure =>
                rw [hlev.out]
                unfold levR
                rw [World.cell?_setCell_same _ _ _ c7]
                simp
end Go.Proofs.Ytegkimecdonfgaa
namespace Go.Proofs.Ytegkimecdonfgaa
open Go.RowKit
set_option maxRecDepth 100000
set_option maxHeartbeats 4000000 in
theorem refLeafMap_any (e : En) (l a : Int) (w : World) : Calls Try.prog 71 #[.agg #[Value.bool e.there, Value.bool e.leaf, (Value.int .i64) e.rights, Value.bool e.used, Value.bool e.dirty, (Value.int .i64) e.frame], .int .i64 l, .int .i64 a] w (Pure (leafMap e l a).val w) := by
  obtain ⟨th, leaf, r, u, d, f⟩ := e
  have h1 := (Has.new (has_old w) #[Value.bool th, Value.bool leaf, (Value.int .i64) r, Value.bool u, Value.bool d, (Value.int .i64) f] 50).new #[(Value.int .i64) 0, (Value.int .i64) 0, (Value.int .i64) 0, (Value.int .i64) 0] 24
  have x1 := ((Ext.refl w).alloc (.cells #[Value.bool th, Value.bool leaf, (Value.int .i64) r, Value.bool u, Value.bool d, (Value.int .i64) f] 50)).alloc (.cells #[(Value.int .i64) 0, (Value.int .i64) 0, (Value.int .i64) 0, (Value.int .i64) 0] 24)
  simp only [World.size_alloc] at h1
  have HC := Lib.hid (fun W => entryFault_any ⟨th, leaf, r, u, d, f⟩ l W)
  by_cases hc : entFault ⟨th, leaf, r, u, d, f⟩ l = 0
  · have hl := entFault_level hc
    cases leaf with
    | false =>
      have hy := Lib.hid (leafMap_no (e := ⟨th, false, r, u, d, f⟩) (l := l) (a := a) (.inr (.inl rfl)))
      rw [hc] at HC
      clear hc
      go_enter Try.func71, Try.ntmps71
      go_wp2_with fail
      refine (HC.out _).mono ?_; rintro e w2 ⟨rfl, bl⟩
      have h2 := h1.below bl
      have x2 := x1.below bl
      obtain ⟨c0, c1, c2, c3⟩ := h2.cells4
      obtain ⟨d0, d1, d2, d3, d4, d5⟩ := h2.right.cells6
      obtain ⟨f0, f1, f2, f3⟩ := h2.frees4
      have l2 := h2.lt
      go_wp2_with fail
      refine ret_via (fun wz => Has wz (blk (w.heap.size + 1) #[(Value.int .i64) 0, (Value.int .i64) 0, (Value.int .i64) 0, (Value.int .i64) 0] 24 * (blk w.heap.size _ 50 * old w w.heap.size)) ∧ Ext w wz) ⟨h2.set4 _ _ _ _, by (repeat (first | with_reducible assumption | with_reducible exact Ext.refl _ | with_reducible refine Ext.set ?_ _ _ | with_reducible refine Ext.alloc ?_ _ | with_reducible refine Ext.drew ?_ | with_reducible refine Ext.drewN ?_ _ | assumption | exact Ext.refl _ | refine Ext.alloc ?_ _ | refine Ext.set ?_ _ _ | refine Ext.drew ?_ | refine Ext.drewN ?_ _ | refine Ext.below ?_ (by assumption) | refine Ext.trans ?_ (by assumption)))⟩ ?_
      rintro wz ⟨hz, xz⟩
      exact bodyPost_ret (results_c Try.results71 rfl (load_map hz)) rfl ⟨by rw [hy.out]; rfl, below_of1 hz.right.right xz⟩
    | true =>
      by_cases a0 : 0 ≤ a
      · by_cases a1 : a < 4096
        · have hth : th = true := by
            cases th with
            | true => rfl
            | false =>
              have := entFault_not hc rfl
              simp [En.zero] at this
          subst hth
          have hl3 := ((entOk_of hc rfl).leaf rfl).1
          have hl0 := hl.1
          have hy := Lib.hid (show leafMap ⟨true, true, r, u, d, f⟩ l a = ⟨a / span l * span l, l, f, r⟩ by unfold leafMap; rw [if_pos ⟨hc, rfl, a0, a1⟩])
          rw [hc] at HC
          clear hc hl
          have hl : l = 0 ∨ l = 1 ∨ l = 2 := by omega
          clear hl0 hl3
          rcases hl with rfl | rfl | rfl
          · skip
            have hq := Lib.hid (show IntKind.i64.wrap a = a / span 0 * span 0 by rw [show span 0 = 1 from rfl]; first | (simp only [IntKind.wrap_i64]; omega) | (simp only [IntKind.wrap_i64, Int.tmod_eq_emod_of_nonneg a0]; omega))
            have hs' := Lib.hid (spanOf_any 0)
            rw [show span 0 = 1 from rfl] at hs'
            go_enter Try.func71, Try.ntmps71
            go_wp2_with fail
            refine (HC.out _).mono ?_; rintro e w2 ⟨rfl, bl⟩
            have h2 := h1.below bl
            have x2 := x1.below bl
            obtain ⟨c0, c1, c2, c3⟩ := h2.cells4
            obtain ⟨d0, d1, d2, d3, d4, d5⟩ := h2.right.cells6
            obtain ⟨f0, f1, f2, f3⟩ := h2.frees4
            have l2 := h2.lt
            clear HC h1 x1 bl
            go_wp2_with fail
            go_region_held3 (fun w' => w'.cell? ⟨w.heap.size, 5, none⟩ = some ((Value.int .i64) f) ∧ w'.cell? ⟨w.heap.size, 2, none⟩ = some ((Value.int .i64) r)) (go_keep) (first | (go_at_call 75; (with_reducible refine (hs'.out _).mono ?_); rintro e w' ⟨rfl, rfl⟩))
            go_wp2
            refine ret_via (fun wz => Has wz (blk (w.heap.size + 1) #[(Value.int .i64) (IntKind.i64.wrap a), (Value.int .i64) 0, (Value.int .i64) f, (Value.int .i64) r] 24 * (blk w.heap.size #[Value.bool true, Value.bool true, (Value.int .i64) r, Value.bool u, Value.bool d, (Value.int .i64) f] 50 * old w w.heap.size)) ∧ Ext w wz) ⟨(h2.set4 _ _ _ _).drew, by (repeat (first | with_reducible assumption | with_reducible exact Ext.refl _ | with_reducible refine Ext.set ?_ _ _ | with_reducible refine Ext.alloc ?_ _ | with_reducible refine Ext.drew ?_ | with_reducible refine Ext.drewN ?_ _ | assumption | exact Ext.refl _ | refine Ext.alloc ?_ _ | refine Ext.set ?_ _ _ | refine Ext.drew ?_ | refine Ext.drewN ?_ _ | refine Ext.below ?_ (by assumption) | refine Ext.trans ?_ (by assumption)))⟩ ?_
            rintro wz ⟨hz, xz⟩
            exact bodyPost_ret (results_c Try.results71 rfl (load_map hz)) rfl ⟨by rw [hy.out, ← hq.out]; rfl, below_of1 hz.right.right xz⟩
          · skip
            have hq := Lib.hid (show IntKind.i64.wrap (a - a.tmod 8) = a / span 1 * span 1 by rw [show span 1 = 8 from rfl]; first | (simp only [IntKind.wrap_i64]; omega) | (simp only [IntKind.wrap_i64, Int.tmod_eq_emod_of_nonneg a0]; omega))
            have hs' := Lib.hid (spanOf_any 1)
            rw [show span 1 = 8 from rfl] at hs'
            go_enter Try.func71, Try.ntmps71
            go_wp2_with fail
            refine (HC.out _).mono ?_; rintro e w2 ⟨rfl, bl⟩
            have h2 := h1.below bl
            have x2 := x1.below bl
            obtain ⟨c0, c1, c2, c3⟩ := h2.cells4
            obtain ⟨d0, d1, d2, d3, d4, d5⟩ := h2.right.cells6
            obtain ⟨f0, f1, f2, f3⟩ := h2.frees4
            have l2 := h2.lt
            clear HC h1 x1 bl
            go_wp2_with fail
            go_region_held3 (fun w' => w'.cell? ⟨w.heap.size, 5, none⟩ = some ((Value.int .i64) f) ∧ w'.cell? ⟨w.heap.size, 2, none⟩ = some ((Value.int .i64) r)) (go_keep) (first | (go_at_call 75; (with_reducible refine (hs'.out _).mono ?_); rintro e w' ⟨rfl, rfl⟩))
            go_wp2
            refine ret_via (fun wz => Has wz (blk (w.heap.size + 1) #[(Value.int .i64) (IntKind.i64.wrap (a - a.tmod 8)), (Value.int .i64) 1, (Value.int .i64) f, (Value.int .i64) r] 24 * (blk w.heap.size #[Value.bool true, Value.bool true, (Value.int .i64) r, Value.bool u, Value.bool d, (Value.int .i64) f] 50 * old w w.heap.size)) ∧ Ext w wz) ⟨(h2.set4 _ _ _ _).drew, by (repeat (first | with_reducible assumption | with_reducible exact Ext.refl _ | with_reducible refine Ext.set ?_ _ _ | with_reducible refine Ext.alloc ?_ _ | with_reducible refine Ext.drew ?_ | with_reducible refine Ext.drewN ?_ _ | assumption | exact Ext.refl _ | refine Ext.alloc ?_ _ | refine Ext.set ?_ _ _ | refine Ext.drew ?_ | refine Ext.drewN ?_ _ | refine Ext.below ?_ (by assumption) | refine Ext.trans ?_ (by assumption)))⟩ ?_
            rintro wz ⟨hz, xz⟩
            exact bodyPost_ret (results_c Try.results71 rfl (load_map hz)) rfl ⟨by rw [hy.out, ← hq.out]; rfl, below_of1 hz.right.right xz⟩
          · skip
            have hq := Lib.hid (show IntKind.i64.wrap (a - a.tmod 64) = a / span 2 * span 2 by rw [show span 2 = 64 from rfl]; first | (simp only [IntKind.wrap_i64]; omega) | (simp only [IntKind.wrap_i64, Int.tmod_eq_emod_of_nonneg a0]; omega))
            have hs' := Lib.hid (spanOf_any 2)
            rw [show span 2 = 64 from rfl] at hs'
            go_enter Try.func71, Try.ntmps71
            go_wp2_with fail
            refine (HC.out _).mono ?_; rintro e w2 ⟨rfl, bl⟩
            have h2 := h1.below bl
            have x2 := x1.below bl
            obtain ⟨c0, c1, c2, c3⟩ := h2.cells4
            obtain ⟨d0, d1, d2, d3, d4, d5⟩ := h2.right.cells6
            obtain ⟨f0, f1, f2, f3⟩ := h2.frees4
            have l2 := h2.lt
            clear HC h1 x1 bl
            go_wp2_with fail
            go_region_held3 (fun w' => w'.cell? ⟨w.heap.size, 5, none⟩ = some ((Value.int .i64) f) ∧ w'.cell? ⟨w.heap.size, 2, none⟩ = some ((Value.int .i64) r)) (go_keep) (first | (go_at_call 75; (with_reducible refine (hs'.out _).mono ?_); rintro e w' ⟨rfl, rfl⟩))
            go_wp2
            refine ret_via (fun wz => Has wz (blk (w.heap.size + 1) #[(Value.int .i64) (IntKind.i64.wrap (a - a.tmod 64)), (Value.int .i64) 2, (Value.int .i64) f, (Value.int .i64) r] 24 * (blk w.heap.size #[Value.bool true, Value.bool true, (Value.int .i64) r, Value.bool u, Value.bool d, (Value.int .i64) f] 50 * old w w.heap.size)) ∧ Ext w wz) ⟨(h2.set4 _ _ _ _).drew, by (repeat (first | with_reducible assumption | with_reducible exact Ext.refl _ | with_reducible refine Ext.set ?_ _ _ | with_reducible refine Ext.alloc ?_ _ | with_reducible refine Ext.drew ?_ | with_reducible refine Ext.drewN ?_ _ | assumption | exact Ext.refl _ | refine Ext.alloc ?_ _ | refine Ext.set ?_ _ _ | refine Ext.drew ?_ | refine Ext.drewN ?_ _ | refine Ext.below ?_ (by assumption) | refine Ext.trans ?_ (by assumption)))⟩ ?_
            rintro wz ⟨hz, xz⟩
            exact bodyPost_ret (results_c Try.results71 rfl (load_map hz)) rfl ⟨by rw [hy.out, ← hq.out]; rfl, below_of1 hz.right.right xz⟩
        · have hy := Lib.hid (leafMap_no (e := ⟨th, true, r, u, d, f⟩) (l := l) (a := a) (.inr (.inr (by unfold hasB; simp; omega))))
          rw [hc] at HC
          clear hc
          go_enter Try.func71, Try.ntmps71
          go_wp2_with fail
          refine (HC.out _).mono ?_; rintro e w2 ⟨rfl, bl⟩
          have h2 := h1.below bl
          have x2 := x1.below bl
          obtain ⟨c0, c1, c2, c3⟩ := h2.cells4
          obtain ⟨d0, d1, d2, d3, d4, d5⟩ := h2.right.cells6
          obtain ⟨f0, f1, f2, f3⟩ := h2.frees4
          have l2 := h2.lt
          go_wp2_with fail
          refine ret_via (fun wz => Has wz (blk (w.heap.size + 1) #[(Value.int .i64) 0, (Value.int .i64) 0, (Value.int .i64) 0, (Value.int .i64) 0] 24 * (blk w.heap.size _ 50 * old w w.heap.size)) ∧ Ext w wz) ⟨h2.set4 _ _ _ _, by (repeat (first | with_reducible assumption | with_reducible exact Ext.refl _ | with_reducible refine Ext.set ?_ _ _ | with_reducible refine Ext.alloc ?_ _ | with_reducible refine Ext.drew ?_ | with_reducible refine Ext.drewN ?_ _ | assumption | exact Ext.refl _ | refine Ext.alloc ?_ _ | refine Ext.set ?_ _ _ | refine Ext.drew ?_ | refine Ext.drewN ?_ _ | refine Ext.below ?_ (by assumption) | refine Ext.trans ?_ (by assumption)))⟩ ?_
          rintro wz ⟨hz, xz⟩
          exact bodyPost_ret (results_c Try.results71 rfl (load_map hz)) rfl ⟨by rw [hy.out]; rfl, below_of1 hz.right.right xz⟩
      · have hy := Lib.hid (leafMap_no (e := ⟨th, true, r, u, d, f⟩) (l := l) (a := a) (.inr (.inr (by unfold hasB; simp; omega))))
        rw [hc] at HC
        clear hc
        go_enter Try.func71, Try.ntmps71
        go_wp2_with fail
        refine (HC.out _).mono ?_; rintro e w2 ⟨rfl, bl⟩
        have h2 := h1.below bl
        have x2 := x1.below bl
        obtain ⟨c0, c1, c2, c3⟩ := h2.cells4
        obtain ⟨d0, d1, d2, d3, d4, d5⟩ := h2.right.cells6
        obtain ⟨f0, f1, f2, f3⟩ := h2.frees4
        have l2 := h2.lt
        go_wp2_with fail
        refine ret_via (fun wz => Has wz (blk (w.heap.size + 1) #[(Value.int .i64) 0, (Value.int .i64) 0, (Value.int .i64) 0, (Value.int .i64) 0] 24 * (blk w.heap.size _ 50 * old w w.heap.size)) ∧ Ext w wz) ⟨h2.set4 _ _ _ _, by (repeat (first | with_reducible assumption | with_reducible exact Ext.refl _ | with_reducible refine Ext.set ?_ _ _ | with_reducible refine Ext.alloc ?_ _ | with_reducible refine Ext.drew ?_ | with_reducible refine Ext.drewN ?_ _ | assumption | exact Ext.refl _ | refine Ext.alloc ?_ _ | refine Ext.set ?_ _ _ | refine Ext.drew ?_ | refine Ext.drewN ?_ _ | refine Ext.below ?_ (by assumption) | refine Ext.trans ?_ (by assumption)))⟩ ?_
        rintro wz ⟨hz, xz⟩
        exact bodyPost_ret (results_c Try.results71 rfl (load_map hz)) rfl ⟨by rw [hy.out]; rfl, below_of1 hz.right.right xz⟩
  · have hy := Lib.hid (leafMap_no (e := ⟨th, leaf, r, u, d, f⟩) (l := l) (a := a) (.inl hc))
    have hn : (entFault ⟨th, leaf, r, u, d, f⟩ l != 0) = true := by simpa using hc
    clear hc
    generalize entFault ⟨th, leaf, r, u, d, f⟩ l = c at *
    go_enter Try.func71, Try.ntmps71
    go_wp2_with fail
    refine (HC.out _).mono ?_; rintro e w2 ⟨rfl, bl⟩
    have h2 := h1.below bl
    have x2 := x1.below bl
    obtain ⟨c0, c1, c2, c3⟩ := h2.cells4
    obtain ⟨d0, d1, d2, d3, d4, d5⟩ := h2.right.cells6
    obtain ⟨f0, f1, f2, f3⟩ := h2.frees4
    have l2 := h2.lt
    go_wp2_with fail
    refine ret_via (fun wz => Has wz (blk (w.heap.size + 1) #[(Value.int .i64) 0, (Value.int .i64) 0, (Value.int .i64) 0, (Value.int .i64) 0] 24 * (blk w.heap.size _ 50 * old w w.heap.size)) ∧ Ext w wz) ⟨h2.set4 _ _ _ _, by (repeat (first | with_reducible assumption | with_reducible exact Ext.refl _ | with_reducible refine Ext.set ?_ _ _ | with_reducible refine Ext.alloc ?_ _ | with_reducible refine Ext.drew ?_ | with_reducible refine Ext.drewN ?_ _ | assumption | exact Ext.refl _ | refine Ext.alloc ?_ _ | refine Ext.set ?_ _ _ | refine Ext.drew ?_ | refine Ext.drewN ?_ _ | refine Ext.below ?_ (by assumption) | refine Ext.trans ?_ (by assumption)))⟩ ?_
    rintro wz ⟨hz, xz⟩
    exact bodyPost_ret (results_c Try.results71 rfl (load_map hz)) rfl ⟨by rw [hy.out]; rfl, below_of1 hz.right.right xz⟩
end Go.Proofs.Ytegkimecdonfgaa
