/- Contracts of package entry: its looks, its panics, and how they are caught. -/
import Derived.Test.YtndhgomikpokpaaRefPage
import Derived.Test.YtndhgomikpokpaaEnt
import Derived.Defers
import Derived.Recover
import Derived.WalkLawsBesides
import Derived.Laws.Pointers
import Derived.Deep.RegionWith
import Derived.StillTailTactics
import Derived.Lib.VarintBits
namespace Go.Proofs.Ytndhgomikpokpaa
open Go.RowKit
set_option maxRecDepth 100000

theorem fail_no (c : Int) (w : World) : Calls Try.prog 154 #[.bool false, .int .i64 c] w (Same (.tuple #[]) w) := by
  go_enter Try.func154, Try.ntmps154
  go_wp2
  go_end0
  exact ⟨rfl, rfl⟩
/-- It panics with a code; the world is the very same. -/
def Dies (c : Int) (w : World) (e : Ending) (w' : World) : Prop := e = .panicked [{ v := .iface 215 ((Value.int .i64) c), recovered := false }] ∧ w = w'
theorem fail_yes (c : Int) (w : World) : Calls Try.prog 154 #[.bool true, .int .i64 c] w (Dies c w) := by
  go_enter Try.func154, Try.ntmps154
  go_wp2
  exact ⟨rfl, rfl, rfl⟩
theorem size_any (l : Int) (w : World) : Calls Try.prog 144 #[.int .i64 l] w (Same ((Value.int .i64) l) w) := by
  go_enter Try.func144, Try.ntmps144
  go_wp2
  go_ret
  exact ⟨rfl, rfl⟩
theorem bit_any (b : Bool) (n : Int) (w : World) : Calls Try.prog 141 #[.bool b, .int .u64 n] w (Same ((Value.int .u64) (b2i b n)) w) := by
  cases b with
  | true =>
    go_enter Try.func141, Try.ntmps141
    go_wp2
    go_ret
    exact ⟨rfl, rfl⟩
  | false =>
    go_enter Try.func141, Try.ntmps141
    go_wp2
    go_ret
    exact ⟨rfl, rfl⟩

theorem assertFault (c : Int) (w : World) : (Instr.typeAssert (.iface 215 ((Value.int .i64) c)) 20 215 true).run Try.prog w = .ok (.tuple #[(Value.int .i64) c, Value.bool true]) w := by kernel_rfl
theorem caught1_panic (p : Addr) (x c : Int) (older : List PanicEntry) (w : World) (hc : w.cell? p = some ((Value.int .i64) x)) (hz : w.frozen? p = false) :
    CallsD Try.prog 153 #[.pointer (some p)] (.panicking ({ v := .iface 215 ((Value.int .i64) c), recovered := false } :: older)) w fun e u' w' =>
      e = .returned (.tuple #[]) ∧ u' = .panicking ({ v := .iface 215 ((Value.int .i64) c), recovered := true } :: older) ∧ w' = w.setCell p ((Value.int .i64) c) := by
  have hta := assertFault c
  refine callsD_of_wpS Try.func153 rfl fun c₀ cs hu => ?_
  apply wpS_seq
  apply wpS_region
  simp [wpOpsS, go_sem, recoverD, hu, Try.ntmps153, Exit.thenS]
  apply wpS_seq
  apply wpS_region
  simp [wpOpsS, go_sem, Exit.thenS]
  refine wpS_cond (t := true) (by simp [Act.eval, Array.replicate]) ?_
  simp only [if_true]
  apply wpS_seq
  apply wpS_region
  simp [wpOpsS, go_sem, Exit.thenS, hta]
  apply wpS_seq
  apply wpS_seq
  apply wpS_region
  simp [wpOpsS, go_sem, Exit.thenS]
  refine wpS_cond (t := false) (by simp [Act.eval, Array.replicate]) ?_
  simp only [Bool.false_eq_true, if_false]
  refine wpS_of_wp (wp_skip ?_)
  simp only [Exit.thenS]
  apply wpS_region
  simp [wpOpsS, go_sem, hc, hz, bodyPostS, results, Try.results153]
theorem caught1_idle (p : Addr) (w : World) :
    CallsD Try.prog 153 #[.pointer (some p)] .returning w fun e u' w' => e = .returned (.tuple #[]) ∧ u' = .returning ∧ w' = w := by
  refine callsD_of_wpS Try.func153 rfl fun c₀ cs hu => ?_
  apply wpS_seq
  apply wpS_region
  simp [wpOpsS, go_sem, recoverD, hu, Try.ntmps153, Exit.thenS]
  apply wpS_seq
  apply wpS_region
  simp [wpOpsS, go_sem, Exit.thenS]
  refine wpS_cond (t := false) (by simp [Act.eval, Array.replicate]) ?_
  simp only [Bool.false_eq_true, if_false]
  refine wpS_of_wp (wp_skip ?_)
  cases c₀
  simp_all [bodyPostS, results, Try.results153]
end Go.Proofs.Ytndhgomikpokpaa

namespace Go.Proofs.Ytndhgomikpokpaa
open Go.RowKit
set_option maxRecDepth 100000

/-- How a look ends that tells a code. -/
def chkEnd (c : Int) : Ending := if c = 0 then .returned (.tuple #[]) else .panicked [{ v := .iface 215 ((Value.int .i64) c), recovered := false }]
def EndC (c : Int) (w : World) (e : Ending) (w' : World) : Prop := e = chkEnd c ∧ Below w.heap.size w w'
set_option maxHeartbeats 4000000 in
theorem check_look (th leaf u d : Bool) (r f l : Int) (w : World) : Calls Try.prog 150 #[.agg #[Value.bool th, Value.bool leaf, (Value.int .i64) r, Value.bool u, Value.bool d, (Value.int .i64) f], (Value.int .i64) l] w (EndC (entFault ⟨th, leaf, r, u, d, f⟩ l) w) := by
  have h1 := Has.new (has_old w) #[Value.bool th, Value.bool leaf, (Value.int .i64) r, Value.bool u, Value.bool d, (Value.int .i64) f] 58
  have bl := below_of1 h1.right ((Ext.refl w).alloc (.cells #[Value.bool th, Value.bool leaf, (Value.int .i64) r, Value.bool u, Value.bool d, (Value.int .i64) f] 58))
  clear h1
  by_cases l0 : l < 0
  · have hy := Lib.hid (show chkEnd (entFault ⟨th, leaf, r, u, d, f⟩ l) = .panicked [{ v := .iface 215 ((Value.int .i64) 1), recovered := false }] by unfold entFault; rw [if_pos (.inl l0)]; rfl)
    go_enter Try.func150, Try.ntmps150
    go_wp2_with (go_at_call 154; first | ((with_reducible refine (fail_no _ _).mono ?_); rintro e w' ⟨rfl, rfl⟩) | ((with_reducible refine (fail_yes _ _).mono ?_); rintro e w' ⟨rfl, rfl⟩))
    exact ⟨rfl, by rw [hy.out], bl⟩
  by_cases l4 : 4 ≤ l
  · have hy := Lib.hid (show chkEnd (entFault ⟨th, leaf, r, u, d, f⟩ l) = .panicked [{ v := .iface 215 ((Value.int .i64) 1), recovered := false }] by unfold entFault; rw [if_pos (.inr l4)]; rfl)
    go_enter Try.func150, Try.ntmps150
    go_wp2_with (go_at_call 154; first | ((with_reducible refine (fail_no _ _).mono ?_); rintro e w' ⟨rfl, rfl⟩) | ((with_reducible refine (fail_yes _ _).mono ?_); rintro e w' ⟨rfl, rfl⟩))
    exact ⟨rfl, by rw [hy.out], bl⟩
  have hl : ¬ (l < 0 ∨ 4 ≤ l) := by omega
  cases th with
  | false =>
    by_cases hz : leaf = false ∧ r = 0 ∧ u = false ∧ d = false ∧ f = 0
    · obtain ⟨rfl, rfl, rfl, rfl, rfl⟩ := hz
      have hy := Lib.hid (show chkEnd (entFault ⟨false, false, 0, false, false, 0⟩ l) = .returned (.tuple #[]) by unfold entFault; rw [if_neg hl]; rfl)
      clear hl
      go_enter Try.func150, Try.ntmps150
      go_wp2_with (go_at_call 154; first | ((with_reducible refine (fail_no _ _).mono ?_); rintro e w' ⟨rfl, rfl⟩) | ((with_reducible refine (fail_yes _ _).mono ?_); rintro e w' ⟨rfl, rfl⟩))
      go_end0
      exact ⟨by rw [hy.out], bl⟩
    · have hy := Lib.hid (show chkEnd (entFault ⟨false, leaf, r, u, d, f⟩ l) = .panicked [{ v := .iface 215 ((Value.int .i64) 7), recovered := false }] by
        unfold entFault
        rw [if_neg hl, if_pos rfl, if_neg (fun e => hz (by unfold En.zero at e; injection e with _ a b c d e; exact ⟨a, b, c, d, e⟩))]
        rfl)
      clear hl
      generalize entFault ⟨false, leaf, r, u, d, f⟩ l = c at hy ⊢
      cases leaf with
      | true => ((clear hz); go_enter Try.func150, Try.ntmps150; (go_wp2_with (go_at_call 154; first | ((with_reducible refine (fail_no _ _).mono ?_); rintro e w' ⟨rfl, rfl⟩) | ((with_reducible refine (fail_yes _ _).mono ?_); rintro e w' ⟨rfl, rfl⟩))); exact ⟨rfl, by rw [hy.out], bl⟩)
      | false =>
        by_cases r0 : r = 0
        · subst r0
          cases u with
          | true => ((clear hz); go_enter Try.func150, Try.ntmps150; (go_wp2_with (go_at_call 154; first | ((with_reducible refine (fail_no _ _).mono ?_); rintro e w' ⟨rfl, rfl⟩) | ((with_reducible refine (fail_yes _ _).mono ?_); rintro e w' ⟨rfl, rfl⟩))); exact ⟨rfl, by rw [hy.out], bl⟩)
          | false =>
            cases d with
            | true => ((clear hz); go_enter Try.func150, Try.ntmps150; (go_wp2_with (go_at_call 154; first | ((with_reducible refine (fail_no _ _).mono ?_); rintro e w' ⟨rfl, rfl⟩) | ((with_reducible refine (fail_yes _ _).mono ?_); rintro e w' ⟨rfl, rfl⟩))); exact ⟨rfl, by rw [hy.out], bl⟩)
            | false =>
              have f0 : (f == 0) = false := by
                rw [Bool.eq_false_iff]
                intro h
                exact hz ⟨rfl, rfl, rfl, rfl, by simpa using h⟩
              ((clear hz); go_enter Try.func150, Try.ntmps150; (go_wp2_with (go_at_call 154; first | ((with_reducible refine (fail_no _ _).mono ?_); rintro e w' ⟨rfl, rfl⟩) | ((with_reducible refine (fail_yes _ _).mono ?_); rintro e w' ⟨rfl, rfl⟩))); exact ⟨rfl, by rw [hy.out], bl⟩)
        · have r0' : (r == 0) = false := by simpa using r0
          clear r0
          ((clear hz); go_enter Try.func150, Try.ntmps150; (go_wp2_with (go_at_call 154; first | ((with_reducible refine (fail_no _ _).mono ?_); rintro e w' ⟨rfl, rfl⟩) | ((with_reducible refine (fail_yes _ _).mono ?_); rintro e w' ⟨rfl, rfl⟩))); exact ⟨rfl, by rw [hy.out], bl⟩)
  | true =>
    have ht : ¬ ((⟨true, leaf, r, u, d, f⟩ : En).there = false) := by simp
    by_cases hb : r < 0
    · have hy := Lib.hid (show chkEnd (entFault ⟨true, leaf, r, u, d, f⟩ l) = .panicked [{ v := .iface 215 ((Value.int .i64) 1), recovered := false }] by
        unfold entFault
        rw [if_neg hl, if_neg ht, if_pos (.inl hb)]
        rfl)
      clear hl ht
      generalize entFault ⟨true, leaf, r, u, d, f⟩ l = c at hy ⊢
      go_enter Try.func150, Try.ntmps150
      go_wp2_with (go_at_call 154; first | ((with_reducible refine (fail_no _ _).mono ?_); rintro e w' ⟨rfl, rfl⟩) | ((with_reducible refine (fail_yes _ _).mono ?_); rintro e w' ⟨rfl, rfl⟩))
      exact ⟨rfl, by rw [hy.out], bl⟩
    by_cases hb : 7 < r
    · have hy := Lib.hid (show chkEnd (entFault ⟨true, leaf, r, u, d, f⟩ l) = .panicked [{ v := .iface 215 ((Value.int .i64) 1), recovered := false }] by
        unfold entFault
        rw [if_neg hl, if_neg ht, if_pos (.inr (.inl hb))]
        rfl)
      clear hl ht
      generalize entFault ⟨true, leaf, r, u, d, f⟩ l = c at hy ⊢
      go_enter Try.func150, Try.ntmps150
      go_wp2_with (go_at_call 154; first | ((with_reducible refine (fail_no _ _).mono ?_); rintro e w' ⟨rfl, rfl⟩) | ((with_reducible refine (fail_yes _ _).mono ?_); rintro e w' ⟨rfl, rfl⟩))
      exact ⟨rfl, by rw [hy.out], bl⟩
    by_cases hb : f < 0
    · have hy := Lib.hid (show chkEnd (entFault ⟨true, leaf, r, u, d, f⟩ l) = .panicked [{ v := .iface 215 ((Value.int .i64) 1), recovered := false }] by
        unfold entFault
        rw [if_neg hl, if_neg ht, if_pos (.inr (.inr (.inl hb)))]
        rfl)
      clear hl ht
      generalize entFault ⟨true, leaf, r, u, d, f⟩ l = c at hy ⊢
      go_enter Try.func150, Try.ntmps150
      go_wp2_with (go_at_call 154; first | ((with_reducible refine (fail_no _ _).mono ?_); rintro e w' ⟨rfl, rfl⟩) | ((with_reducible refine (fail_yes _ _).mono ?_); rintro e w' ⟨rfl, rfl⟩))
      exact ⟨rfl, by rw [hy.out], bl⟩
    by_cases hb : 1048576 ≤ f
    · have hy := Lib.hid (show chkEnd (entFault ⟨true, leaf, r, u, d, f⟩ l) = .panicked [{ v := .iface 215 ((Value.int .i64) 1), recovered := false }] by
        unfold entFault
        rw [if_neg hl, if_neg ht, if_pos (.inr (.inr (.inr hb)))]
        rfl)
      clear hl ht
      generalize entFault ⟨true, leaf, r, u, d, f⟩ l = c at hy ⊢
      go_enter Try.func150, Try.ntmps150
      go_wp2_with (go_at_call 154; first | ((with_reducible refine (fail_no _ _).mono ?_); rintro e w' ⟨rfl, rfl⟩) | ((with_reducible refine (fail_yes _ _).mono ?_); rintro e w' ⟨rfl, rfl⟩))
      exact ⟨rfl, by rw [hy.out], bl⟩
    have hr : ¬ (r < 0 ∨ 7 < r ∨ f < 0 ∨ 1048576 ≤ f) := by omega
    have d1 : decide (r < 0) = false := by simp; omega
    have d2 : decide (7 < r) = false := by simp; omega
    have d3 : decide (f < 0) = false := by simp; omega
    have d4 : decide (1048576 ≤ f) = false := by simp; omega
    cases leaf with
    | false =>
      by_cases lz : l = 0
      · subst lz
        have hy := Lib.hid (show chkEnd (entFault ⟨true, false, r, u, d, f⟩ 0) = .panicked [{ v := .iface 215 ((Value.int .i64) 2), recovered := false }] by
          unfold entFault
          rw [if_neg hl, if_neg ht, if_neg hr, if_pos (.inr ⟨rfl, rfl⟩)]
          rfl)
        clear hl ht hr
        generalize entFault ⟨true, false, r, u, d, f⟩ 0 = c at hy ⊢
        go_enter Try.func150, Try.ntmps150
        go_wp2_with (go_at_call 154; first | ((with_reducible refine (fail_no _ _).mono ?_); rintro e w' ⟨rfl, rfl⟩) | ((with_reducible refine (fail_yes _ _).mono ?_); rintro e w' ⟨rfl, rfl⟩))
        exact ⟨rfl, by rw [hy.out], bl⟩
      have hk : ¬ ((false = true ∧ l = 3) ∨ (false = false ∧ l = 0)) := by simp [lz]
      by_cases hx : r ≠ 7 ∨ u = true ∨ d = true
      · have hy := Lib.hid (show chkEnd (entFault ⟨true, false, r, u, d, f⟩ l) = .panicked [{ v := .iface 215 ((Value.int .i64) 7), recovered := false }] by
          unfold entFault
          rw [if_neg hl, if_neg ht, if_neg hr, if_neg hk, if_pos rfl, if_pos hx]
          rfl)
        clear hl ht hr hk
        have lz' : (l == 0) = false := by simpa using lz
        generalize entFault ⟨true, false, r, u, d, f⟩ l = c at hy ⊢
        by_cases r7 : r = 7
        · cases u with
          | true =>
            clear hx
            subst r7
            go_enter Try.func150, Try.ntmps150
            go_wp2_with (go_at_call 154; first | ((with_reducible refine (fail_no _ _).mono ?_); rintro e w' ⟨rfl, rfl⟩) | ((with_reducible refine (fail_yes _ _).mono ?_); rintro e w' ⟨rfl, rfl⟩))
            exact ⟨rfl, by rw [hy.out], bl⟩
          | false =>
            obtain rfl : d = true := by rcases hx with hx | hx | hx; exact absurd r7 hx; cases hx; exact hx
            subst r7
            clear hx
            go_enter Try.func150, Try.ntmps150
            go_wp2_with (go_at_call 154; first | ((with_reducible refine (fail_no _ _).mono ?_); rintro e w' ⟨rfl, rfl⟩) | ((with_reducible refine (fail_yes _ _).mono ?_); rintro e w' ⟨rfl, rfl⟩))
            exact ⟨rfl, by rw [hy.out], bl⟩
        · have r7' : (r != 7) = true := by simpa using r7
          clear hx r7
          go_enter Try.func150, Try.ntmps150
          go_wp2_with (go_at_call 154; first | ((with_reducible refine (fail_no _ _).mono ?_); rintro e w' ⟨rfl, rfl⟩) | ((with_reducible refine (fail_yes _ _).mono ?_); rintro e w' ⟨rfl, rfl⟩))
          exact ⟨rfl, by rw [hy.out], bl⟩
      · obtain ⟨rfl, rfl, rfl⟩ : r = 7 ∧ u = false ∧ d = false := by
          refine ⟨?_, ?_, ?_⟩
          · exact Decidable.of_not_not fun h => hx (.inl h)
          · cases u with
            | false => rfl
            | true => exact absurd (.inr (.inl rfl)) hx
          · cases d with
            | false => rfl
            | true => exact absurd (.inr (.inr rfl)) hx
        have hy := Lib.hid (show chkEnd (entFault ⟨true, false, 7, false, false, f⟩ l) = .returned (.tuple #[]) by
          unfold entFault
          rw [if_neg hl, if_neg ht, if_neg hr, if_neg hk, if_pos rfl, if_neg hx]
          rfl)
        have lz' : (l == 0) = false := by simpa using lz
        clear hl ht hr hk hx lz
        generalize entFault ⟨true, false, 7, false, false, f⟩ l = c at hy ⊢
        go_enter Try.func150, Try.ntmps150
        go_wp2_with (go_at_call 154; first | ((with_reducible refine (fail_no _ _).mono ?_); rintro e w' ⟨rfl, rfl⟩) | ((with_reducible refine (fail_yes _ _).mono ?_); rintro e w' ⟨rfl, rfl⟩))
        go_end0
        exact ⟨by rw [hy.out], bl⟩
    | true =>
      by_cases l3 : l = 3
      · subst l3
        have hy := Lib.hid (show chkEnd (entFault ⟨true, true, r, u, d, f⟩ 3) = .panicked [{ v := .iface 215 ((Value.int .i64) 2), recovered := false }] by
          unfold entFault
          rw [if_neg hl, if_neg ht, if_neg hr, if_pos (.inl ⟨rfl, rfl⟩)]
          rfl)
        clear hl ht hr
        generalize entFault ⟨true, true, r, u, d, f⟩ 3 = c at hy ⊢
        go_enter Try.func150, Try.ntmps150
        go_wp2_with (go_at_call 154; first | ((with_reducible refine (fail_no _ _).mono ?_); rintro e w' ⟨rfl, rfl⟩) | ((with_reducible refine (fail_yes _ _).mono ?_); rintro e w' ⟨rfl, rfl⟩))
        exact ⟨rfl, by rw [hy.out], bl⟩
      have hk : ¬ ((true = true ∧ l = 3) ∨ (true = false ∧ l = 0)) := by simp [l3]
      have hsp : entFault ⟨true, true, r, u, d, f⟩ l = if f % span l ≠ 0 then 3 else 0 := by
        unfold entFault
        rw [if_neg hl, if_neg ht, if_neg hr, if_neg hk, if_neg (by simp)]
      have hl3 : l = 0 ∨ l = 1 ∨ l = 2 := by omega
      clear ht hr hk l3
      rcases hl3 with rfl | rfl | rfl
      · skip
        have hs : span 0 = 1 := rfl
        rw [hs] at hsp
        have hsc : ∀ W, Calls Try.prog 136 #[.int .i64 0] W (Same ((Value.int .i64) 1) W) := fun W => by
          have := span_any 0 W
          rwa [hs] at this
        have HS := Lib.hid hsc
        clear hs hsc
        have hm : f % 1 = 0 := Int.emod_one f
        have hy := Lib.hid (show chkEnd (entFault ⟨true, true, r, u, d, f⟩ 0) = .returned (.tuple #[]) by rw [hsp, if_neg (fun h => h hm)]; rfl)
        have hm' : (f.tmod 1 != 0) = false := by rw [Int.tmod_eq_emod_of_nonneg (by omega)]; rw [bne_eq_false_iff_eq]; exact hm
        clear hl hsp hm
        generalize entFault ⟨true, true, r, u, d, f⟩ 0 = c at hy ⊢
        go_enter Try.func150, Try.ntmps150
        go_wp2_with (go_at_call 154; first | ((with_reducible refine (fail_no _ _).mono ?_); rintro e w' ⟨rfl, rfl⟩) | ((with_reducible refine (fail_yes _ _).mono ?_); rintro e w' ⟨rfl, rfl⟩))
        go_region_with (first | (go_at_call 144; (with_reducible refine (size_any _ _).mono ?_); rintro e w' ⟨rfl, rfl⟩) | (go_at_call 136; (with_reducible refine (HS.out _).mono ?_); rintro e w' ⟨rfl, rfl⟩) | (go_at_call 154; first | ((with_reducible refine (fail_no _ _).mono ?_); rintro e w' ⟨rfl, rfl⟩) | ((with_reducible refine (fail_yes _ _).mono ?_); rintro e w' ⟨rfl, rfl⟩)))
        all_goals
          go_wp2
          go_end0
          exact ⟨by rw [hy.out], bl.drew⟩
      · skip
        have hs : span 1 = 8 := rfl
        rw [hs] at hsp
        have hsc : ∀ W, Calls Try.prog 136 #[.int .i64 1] W (Same ((Value.int .i64) 8) W) := fun W => by
          have := span_any 1 W
          rwa [hs] at this
        have HS := Lib.hid hsc
        clear hs hsc
        by_cases hm : f % 8 = 0
        · have hy := Lib.hid (show chkEnd (entFault ⟨true, true, r, u, d, f⟩ 1) = .returned (.tuple #[]) by rw [hsp, if_neg (fun h => h hm)]; rfl)
          have hm' : (f.tmod 8 != 0) = false := by rw [Int.tmod_eq_emod_of_nonneg (by omega)]; rw [bne_eq_false_iff_eq]; exact hm
          clear hl hsp hm
          generalize entFault ⟨true, true, r, u, d, f⟩ 1 = c at hy ⊢
          go_enter Try.func150, Try.ntmps150
          go_wp2_with (go_at_call 154; first | ((with_reducible refine (fail_no _ _).mono ?_); rintro e w' ⟨rfl, rfl⟩) | ((with_reducible refine (fail_yes _ _).mono ?_); rintro e w' ⟨rfl, rfl⟩))
          go_region_with (first | (go_at_call 144; (with_reducible refine (size_any _ _).mono ?_); rintro e w' ⟨rfl, rfl⟩) | (go_at_call 136; (with_reducible refine (HS.out _).mono ?_); rintro e w' ⟨rfl, rfl⟩) | (go_at_call 154; first | ((with_reducible refine (fail_no _ _).mono ?_); rintro e w' ⟨rfl, rfl⟩) | ((with_reducible refine (fail_yes _ _).mono ?_); rintro e w' ⟨rfl, rfl⟩)))
          all_goals
            go_wp2
            go_end0
            exact ⟨by rw [hy.out], bl.drew⟩
        · have hy := Lib.hid (show chkEnd (entFault ⟨true, true, r, u, d, f⟩ 1) = .panicked [{ v := .iface 215 ((Value.int .i64) 3), recovered := false }] by rw [hsp, if_pos hm]; rfl)
          have hm' : (f.tmod 8 != 0) = true := by rw [Int.tmod_eq_emod_of_nonneg (by omega)]; rw [bne_iff_ne]; exact hm
          clear hl hsp hm
          generalize entFault ⟨true, true, r, u, d, f⟩ 1 = c at hy ⊢
          go_enter Try.func150, Try.ntmps150
          go_wp2_with (go_at_call 154; first | ((with_reducible refine (fail_no _ _).mono ?_); rintro e w' ⟨rfl, rfl⟩) | ((with_reducible refine (fail_yes _ _).mono ?_); rintro e w' ⟨rfl, rfl⟩))
          have hw1 := Has.new (has_old w) #[Value.bool true, Value.bool true, (Value.int .i64) r, Value.bool u, Value.bool d, (Value.int .i64) f] 58
          generalize w.alloc (.cells #[Value.bool true, Value.bool true, (Value.int .i64) r, Value.bool u, Value.bool d, (Value.int .i64) f] 58) = W at *
          have cd : W.cell? ⟨w.heap.size, 5, none⟩ = some ((Value.int .i64) f) := hw1.cells6.2.2.2.2.2
          clear hw1
          go_still_tail 7, (by kernel_rfl)
          still_call ((size_any _ _).mono fun _ _ ⟨a, b⟩ => ⟨a, b.symm⟩)
          still_call ((HS.out _).mono fun _ _ ⟨a, b⟩ => ⟨a, b.symm⟩)
          repeat still_step
          try refine wpStill_nil ?_
          go_wp2_with (go_at_call 154; first | ((with_reducible refine (fail_no _ _).mono ?_); rintro e w' ⟨rfl, rfl⟩) | ((with_reducible refine (fail_yes _ _).mono ?_); rintro e w' ⟨rfl, rfl⟩))
          exact ⟨rfl, by rw [hy.out], bl.drew⟩
      · skip
        have hs : span 2 = 64 := rfl
        rw [hs] at hsp
        have hsc : ∀ W, Calls Try.prog 136 #[.int .i64 2] W (Same ((Value.int .i64) 64) W) := fun W => by
          have := span_any 2 W
          rwa [hs] at this
        have HS := Lib.hid hsc
        clear hs hsc
        by_cases hm : f % 64 = 0
        · have hy := Lib.hid (show chkEnd (entFault ⟨true, true, r, u, d, f⟩ 2) = .returned (.tuple #[]) by rw [hsp, if_neg (fun h => h hm)]; rfl)
          have hm' : (f.tmod 64 != 0) = false := by rw [Int.tmod_eq_emod_of_nonneg (by omega)]; rw [bne_eq_false_iff_eq]; exact hm
          clear hl hsp hm
          generalize entFault ⟨true, true, r, u, d, f⟩ 2 = c at hy ⊢
          go_enter Try.func150, Try.ntmps150
          go_wp2_with (go_at_call 154; first | ((with_reducible refine (fail_no _ _).mono ?_); rintro e w' ⟨rfl, rfl⟩) | ((with_reducible refine (fail_yes _ _).mono ?_); rintro e w' ⟨rfl, rfl⟩))
          go_region_with (first | (go_at_call 144; (with_reducible refine (size_any _ _).mono ?_); rintro e w' ⟨rfl, rfl⟩) | (go_at_call 136; (with_reducible refine (HS.out _).mono ?_); rintro e w' ⟨rfl, rfl⟩) | (go_at_call 154; first | ((with_reducible refine (fail_no _ _).mono ?_); rintro e w' ⟨rfl, rfl⟩) | ((with_reducible refine (fail_yes _ _).mono ?_); rintro e w' ⟨rfl, rfl⟩)))
          all_goals
            go_wp2
            go_end0
            exact ⟨by rw [hy.out], bl.drew⟩
        · have hy := Lib.hid (show chkEnd (entFault ⟨true, true, r, u, d, f⟩ 2) = .panicked [{ v := .iface 215 ((Value.int .i64) 3), recovered := false }] by rw [hsp, if_pos hm]; rfl)
          have hm' : (f.tmod 64 != 0) = true := by rw [Int.tmod_eq_emod_of_nonneg (by omega)]; rw [bne_iff_ne]; exact hm
          clear hl hsp hm
          generalize entFault ⟨true, true, r, u, d, f⟩ 2 = c at hy ⊢
          go_enter Try.func150, Try.ntmps150
          go_wp2_with (go_at_call 154; first | ((with_reducible refine (fail_no _ _).mono ?_); rintro e w' ⟨rfl, rfl⟩) | ((with_reducible refine (fail_yes _ _).mono ?_); rintro e w' ⟨rfl, rfl⟩))
          have hw1 := Has.new (has_old w) #[Value.bool true, Value.bool true, (Value.int .i64) r, Value.bool u, Value.bool d, (Value.int .i64) f] 58
          generalize w.alloc (.cells #[Value.bool true, Value.bool true, (Value.int .i64) r, Value.bool u, Value.bool d, (Value.int .i64) f] 58) = W at *
          have cd : W.cell? ⟨w.heap.size, 5, none⟩ = some ((Value.int .i64) f) := hw1.cells6.2.2.2.2.2
          clear hw1
          go_still_tail 7, (by kernel_rfl)
          still_call ((size_any _ _).mono fun _ _ ⟨a, b⟩ => ⟨a, b.symm⟩)
          still_call ((HS.out _).mono fun _ _ ⟨a, b⟩ => ⟨a, b.symm⟩)
          repeat still_step
          try refine wpStill_nil ?_
          go_wp2_with (go_at_call 154; first | ((with_reducible refine (fail_no _ _).mono ?_); rintro e w' ⟨rfl, rfl⟩) | ((with_reducible refine (fail_yes _ _).mono ?_); rintro e w' ⟨rfl, rfl⟩))
          exact ⟨rfl, by rw [hy.out], bl.drew⟩
end Go.Proofs.Ytndhgomikpokpaa

namespace Go.Proofs.Ytndhgomikpokpaa
open Go.RowKit
set_option maxRecDepth 100000

theorem look_any (b q : Nat) (th leaf u d : Bool) (r f l : Int) (w : World) (c0 : w.cell? ⟨b, 0, none⟩ = some (Value.bool th)) (c1 : w.cell? ⟨b, 1, none⟩ = some (Value.bool leaf)) (c2 : w.cell? ⟨b, 2, none⟩ = some ((Value.int .i64) r)) (c3 : w.cell? ⟨b, 3, none⟩ = some (Value.bool u)) (c4 : w.cell? ⟨b, 4, none⟩ = some (Value.bool d)) (c5 : w.cell? ⟨b, 5, none⟩ = some ((Value.int .i64) f)) (c6 : w.cell? ⟨q, 0, none⟩ = some ((Value.int .i64) l)) :
    Calls Try.prog 149 #[.pointer (some ⟨b, 0, none⟩), .pointer (some ⟨q, 0, none⟩)] w (EndC (entFault ⟨th, leaf, r, u, d, f⟩ l) w) := by
  by_cases hc : entFault ⟨th, leaf, r, u, d, f⟩ l = 0
  · have hy := Lib.hid (show chkEnd (entFault ⟨th, leaf, r, u, d, f⟩ l) = .returned (.tuple #[]) by unfold chkEnd; rw [if_pos hc])
    have HC := Lib.hid (fun W => check_look th leaf u d r f l W)
    clear hc
    go_enter Try.func149, Try.ntmps149
    go_wp2_with fail
    refine (HC.out _).mono ?_; rintro e w' ⟨he, bl⟩
    rw [hy.out] at he
    subst he
    go_wp2
    go_end0
    exact ⟨hy.out.symm, bl⟩
  · have hy := Lib.hid (show chkEnd (entFault ⟨th, leaf, r, u, d, f⟩ l) = .panicked [{ v := .iface 215 ((Value.int .i64) (entFault ⟨th, leaf, r, u, d, f⟩ l)), recovered := false }] by unfold chkEnd; rw [if_neg hc])
    have HC := Lib.hid (fun W => check_look th leaf u d r f l W)
    clear hc
    go_enter Try.func149, Try.ntmps149
    go_wp2_with fail
    refine (HC.out _).mono ?_; rintro e w' ⟨he, bl⟩
    rw [hy.out] at he
    subst he
    go_wp2
    exact ⟨rfl, hy.out.symm, bl⟩

theorem caught_any (b q : Nat) (th leaf u d : Bool) (r f l : Int) (w : World) (c0 : w.cell? ⟨b, 0, none⟩ = some (Value.bool th)) (c1 : w.cell? ⟨b, 1, none⟩ = some (Value.bool leaf)) (c2 : w.cell? ⟨b, 2, none⟩ = some ((Value.int .i64) r)) (c3 : w.cell? ⟨b, 3, none⟩ = some (Value.bool u)) (c4 : w.cell? ⟨b, 4, none⟩ = some (Value.bool d)) (c5 : w.cell? ⟨b, 5, none⟩ = some ((Value.int .i64) f)) (c6 : w.cell? ⟨q, 0, none⟩ = some ((Value.int .i64) l))
    (hb : b < w.heap.size) (hq : q < w.heap.size) :
    Calls Try.prog 148 #[.func (.func 149) #[] #[.pointer (some ⟨b, 0, none⟩), .pointer (some ⟨q, 0, none⟩)]] w (Pure ((Value.int .i64) (entFault ⟨th, leaf, r, u, d, f⟩ l)) w) := by
  have hmf : ∀ (fn : Fn) (first cap : Array Value) (w : World), (Instr.makeFunc fn first cap).run Try.prog w = .ok (.func fn first cap) w := fun _ _ _ _ => rfl
  have b1 := Below.alloc (Below.refl w.heap.size w) (Nat.le_refl _) (.cells #[(Value.int .i64) 0] 3)
  have k0 := (b1.cell (p := ⟨b, 0, none⟩) hb).trans c0
  have k1 := (b1.cell (p := ⟨b, 1, none⟩) hb).trans c1
  have k2 := (b1.cell (p := ⟨b, 2, none⟩) hb).trans c2
  have k3 := (b1.cell (p := ⟨b, 3, none⟩) hb).trans c3
  have k4 := (b1.cell (p := ⟨b, 4, none⟩) hb).trans c4
  have k5 := (b1.cell (p := ⟨b, 5, none⟩) hb).trans c5
  have k6 := (b1.cell (p := ⟨q, 0, none⟩) hq).trans c6
  clear c0 c1 c2 c3 c4 c5 c6
  have h1 := Has.new (has_old w) #[(Value.int .i64) 0] 3
  by_cases hc : entFault ⟨th, leaf, r, u, d, f⟩ l = 0
  · have hy := Lib.hid (show chkEnd (entFault ⟨th, leaf, r, u, d, f⟩ l) = .returned (.tuple #[]) by unfold chkEnd; rw [if_pos hc])
    rw [hc]
    have HC := Lib.hid (look_any b q th leaf u d r f l _ k0 k1 k2 k3 k4 k5 k6)
    clear hc k0 k1 k2 k3 k4 k5 k6
    go_enter_defers Try.func148, Try.ntmps148
    go_wp2_with fail
    refine (HC.out).mono ?_; rintro e w2 ⟨he, bl⟩
    rw [hy.out] at he
    subst he
    have h2 := h1.below bl
    have x2 := ((Ext.refl w).alloc (.cells #[(Value.int .i64) 0] 3)).below bl
    have z0 : w2.cell? ⟨w.heap.size, 0, none⟩ = some ((Value.int .i64) 0) := h2.cell 0
    have zf := h2.free 0
    have zl := h2.lt
    clear h1 bl hy HC
    go_wp2_with fail
    refine leaves_cons (f := 153) (args := #[.pointer (some ⟨w.heap.size, 0, none⟩)]) (by simp) (by simp [go_sem]) ?_
    refine (caught1_idle ⟨w.heap.size, 0, none⟩ _).mono ?_
    rintro e u' w'' ⟨rfl, rfl, rfl⟩
    have zz : (w2.setCell ⟨w.heap.size, 0, none⟩ ((Value.int .i64) 0)).cell? ⟨w.heap.size, 0, none⟩ = some ((Value.int .i64) 0) := (h2.set 0 ((Value.int .i64) 0)).cell 0
    simp [Leaves, settle, results, Try.results148, go_sem, zz]
    exact ⟨rfl, below_of1 (h2.set 0 _).right (x2.set _ _)⟩
  · have hy := Lib.hid (show chkEnd (entFault ⟨th, leaf, r, u, d, f⟩ l) = .panicked [{ v := .iface 215 ((Value.int .i64) (entFault ⟨th, leaf, r, u, d, f⟩ l)), recovered := false }] by unfold chkEnd; rw [if_neg hc])
    have HC := Lib.hid (look_any b q th leaf u d r f l _ k0 k1 k2 k3 k4 k5 k6)
    clear hc k0 k1 k2 k3 k4 k5 k6
    generalize entFault ⟨th, leaf, r, u, d, f⟩ l = c at *
    go_enter_defers Try.func148, Try.ntmps148
    go_wp2_with fail
    refine (HC.out).mono ?_; rintro e w2 ⟨he, bl⟩
    rw [hy.out] at he
    subst he
    have h2 := h1.below bl
    have x2 := ((Ext.refl w).alloc (.cells #[(Value.int .i64) 0] 3)).below bl
    have z0 : w2.cell? ⟨w.heap.size, 0, none⟩ = some ((Value.int .i64) 0) := h2.cell 0
    have zf := h2.free 0
    have zl := h2.lt
    clear h1 bl hy HC
    go_wp2_with fail
    refine leaves_cons (f := 153) (args := #[.pointer (some ⟨w.heap.size, 0, none⟩)]) (by simp) (by simp [go_sem]) ?_
    refine (caught1_panic ⟨w.heap.size, 0, none⟩ 0 c [] _ z0 zf).mono ?_
    rintro e u' w'' ⟨rfl, rfl, rfl⟩
    have zz : (w2.setCell ⟨w.heap.size, 0, none⟩ ((Value.int .i64) c)).cell? ⟨w.heap.size, 0, none⟩ = some ((Value.int .i64) c) := (h2.set 0 ((Value.int .i64) c)).cell 0
    simp [Leaves, settle, results, Try.results148, go_sem, zz]
    exact ⟨rfl, below_of1 (h2.set 0 _).right (x2.set _ _)⟩

/-- entry.Check. -/
theorem entCheck_any (e : En) (l : Int) (w : World) : Calls Try.prog 140 #[.agg #[Value.bool e.there, Value.bool e.leaf, (Value.int .i64) e.rights, Value.bool e.used, Value.bool e.dirty, (Value.int .i64) e.frame], .int .i64 l] w (Pure ((Value.int .i64) (entFault e l)) w) := by
  obtain ⟨th, leaf, r, u, d, f⟩ := e
  have hmf : ∀ (fn : Fn) (first cap : Array Value) (w : World), (Instr.makeFunc fn first cap).run Try.prog w = .ok (.func fn first cap) w := fun _ _ _ _ => rfl
  have h1 := (Has.new (has_old w) #[Value.bool th, Value.bool leaf, (Value.int .i64) r, Value.bool u, Value.bool d, (Value.int .i64) f] 58).new #[(Value.int .i64) l] 3
  have x1 := ((Ext.refl w).alloc (.cells #[Value.bool th, Value.bool leaf, (Value.int .i64) r, Value.bool u, Value.bool d, (Value.int .i64) f] 58)).alloc (.cells #[(Value.int .i64) l] 3)
  simp only [World.size_alloc] at h1
  have c6 := h1.cell 0
  obtain ⟨c0, c1, c2, c3, c4, c5⟩ := h1.right.cells6
  have HC := Lib.hid (caught_any w.heap.size (w.heap.size + 1) th leaf u d r f l _ c0 c1 c2 c3 c4 c5 c6 h1.right.lt h1.lt)
  clear c0 c1 c2 c3 c4 c5 c6
  go_enter Try.func140, Try.ntmps140
  go_wp2_with fail
  refine (HC.out).mono ?_; rintro e w2 ⟨rfl, bl⟩
  go_wp2
  go_ret
  exact ⟨rfl, below_of1 (h1.below bl).right.right (x1.below bl)⟩
end Go.Proofs.Ytndhgomikpokpaa

namespace Go.Proofs.Ytndhgomikpokpaa
open Go.RowKit
set_option maxRecDepth 100000

theorem or_word (r f : Int) (u d lf : Bool) (r0 : 0 ≤ r) (r7 : r ≤ 7) (f0 : 0 ≤ f) (f1 : f < 1048576) :
    bits .or .u64 (bits .or .u64 (bits .or .u64 (bits .or .u64 (bits .or .u64 1 (r * 2)) (b2i u 32)) (b2i d 64)) (b2i lf 128)) (f * 4096) = f * 4096 + r * 2 + 1 + b2i u 32 + b2i d 64 + b2i lf 128 := by
  have hu : b2i u 32 = 0 ∨ b2i u 32 = 32 := by cases u <;> simp [b2i]
  have hd : b2i d 64 = 0 ∨ b2i d 64 = 64 := by cases d <;> simp [b2i]
  have hl : b2i lf 128 = 0 ∨ b2i lf 128 = 128 := by cases lf <;> simp [b2i]
  generalize b2i u 32 = a at *
  generalize b2i d 64 = b at *
  generalize b2i lf 128 = c at *
  rw [bits_join_low .u64 64 (by decide) wraps_u64 1 1 (r * 2) (by omega) (by omega) (by omega) (by omega) (by omega) (by omega)]
  rw [bits_join_low .u64 64 (by decide) wraps_u64 5 (1 + r * 2) a (by omega) (by omega) (by omega) (by omega) (by omega) (by omega)]
  rw [bits_join_low .u64 64 (by decide) wraps_u64 6 (1 + r * 2 + a) b (by omega) (by omega) (by omega) (by omega) (by omega) (by omega)]
  rw [bits_join_low .u64 64 (by decide) wraps_u64 7 (1 + r * 2 + a + b) c (by omega) (by omega) (by omega) (by omega) (by omega) (by omega)]
  rw [bits_join_low .u64 64 (by decide) wraps_u64 12 (1 + r * 2 + a + b + c) (f * 4096) (by omega) (by omega) (by omega) (by omega) (by omega) (by omega)]
  omega
set_option maxHeartbeats 2000000 in
theorem encode_any (e : En) (l : Int) (w : World) : Calls Try.prog 102 #[.agg #[Value.bool e.there, Value.bool e.leaf, (Value.int .i64) e.rights, Value.bool e.used, Value.bool e.dirty, (Value.int .i64) e.frame], .int .i64 l] w (Pure (.tuple #[(Value.int .u64) (encW e l), (Value.int .i64) (entFault e l)]) w) := by
  obtain ⟨th, leaf, r, u, d, f⟩ := e
  have h1 := Has.new (has_old w) #[Value.bool th, Value.bool leaf, (Value.int .i64) r, Value.bool u, Value.bool d, (Value.int .i64) f] 58
  have x1 := (Ext.refl w).alloc (.cells #[Value.bool th, Value.bool leaf, (Value.int .i64) r, Value.bool u, Value.bool d, (Value.int .i64) f] 58)
  have HC := Lib.hid (fun W => entCheck_any ⟨th, leaf, r, u, d, f⟩ l W)
  by_cases hc : entFault ⟨th, leaf, r, u, d, f⟩ l = 0
  · rw [hc] at HC ⊢
    cases th with
    | false =>
      have hy := Lib.hid (show encW ⟨false, leaf, r, u, d, f⟩ l = 0 by unfold encW; rw [if_neg (by simp)])
      clear hc
      go_enter Try.func102, Try.ntmps102
      go_wp2_with fail
      refine (HC.out _).mono ?_; rintro e w2 ⟨rfl, bl⟩
      have h2 := h1.below bl
      obtain ⟨c0, c1, c2, c3, c4, c5⟩ := h2.cells6
      go_wp2
      go_ret2
      exact ⟨by rw [hy.out]; rfl, below_of1 h2.right (x1.below bl)⟩
    | true =>
      have hk := entOk_of hc rfl
      have hy := Lib.hid (show encW ⟨true, leaf, r, u, d, f⟩ l = wordE ⟨true, leaf, r, u, d, f⟩ l by unfold encW; rw [if_pos ⟨hc, rfl⟩])
      have r0 : 0 ≤ r := hk.r0
      have r7 : r ≤ 7 := hk.r7
      have f0 : 0 ≤ f := hk.f0
      have f1 : f < 1048576 := hk.f1
      have l0 := hk.l0
      have l4 := hk.l4
      clear hc hk
      cases leaf with
      | false =>
        go_enter Try.func102, Try.ntmps102
        go_wp2_with fail
        refine (HC.out _).mono ?_; rintro e w2 ⟨rfl, bl⟩
        have h2 := h1.below bl
        obtain ⟨c0, c1, c2, c3, c4, c5⟩ := h2.cells6
        have v0 := via_cell c0
        have v1 := via_cell c1
        have v2 := via_cell c2
        have v3 := via_cell c3
        have v4 := via_cell c4
        have v5 := via_cell c5
        clear c1 c2 c3 c4 c5
        go_wp2
        refine wp_region_via (by kernel_rfl) (by kernel_rfl) ?_
        repeat (first | go_big_quiet_step ((go_at_call 141; exact Same.via (bit_any _ _ _))) | quiet_step ((go_at_call 141; exact Same.via (bit_any _ _ _))))
        refine wpQuiet_nil ?_
        intro _ hw'
        obtain ⟨uq, hw''⟩ := hw'
        subst hw''
        go_wp2
        go_ret2
        refine ⟨?_, below_of1 (h2.via _).right ((x1.below bl).below (via_below _ _))⟩
        rw [hy.out]
        show Ending.returned (.tuple #[(Value.int .u64) _, (Value.int .i64) 0]) = _
        refine congrArg (fun n : Int => Ending.returned (.tuple #[(Value.int .u64) n, (Value.int .i64) 0])) ?_
        exact (or_word r f u d _ r0 r7 f0 f1).trans (by unfold wordE; simp)
      | true =>
        by_cases lz : l = 0
        · subst lz
          go_enter Try.func102, Try.ntmps102
          go_wp2_with fail
          refine (HC.out _).mono ?_; rintro e w2 ⟨rfl, bl⟩
          have h2 := h1.below bl
          obtain ⟨c0, c1, c2, c3, c4, c5⟩ := h2.cells6
          have v0 := via_cell c0
          have v1 := via_cell c1
          have v2 := via_cell c2
          have v3 := via_cell c3
          have v4 := via_cell c4
          have v5 := via_cell c5
          clear c1 c2 c3 c4 c5
          go_wp2
          refine wp_region_via (by kernel_rfl) (by kernel_rfl) ?_
          repeat (first | go_big_quiet_step ((go_at_call 141; exact Same.via (bit_any _ _ _))) | quiet_step ((go_at_call 141; exact Same.via (bit_any _ _ _))))
          refine wpQuiet_nil ?_
          intro _ hw'
          obtain ⟨uq, hw''⟩ := hw'
          subst hw''
          go_wp2
          go_ret2
          refine ⟨?_, below_of1 (h2.via _).right ((x1.below bl).below (via_below _ _))⟩
          rw [hy.out]
          show Ending.returned (.tuple #[(Value.int .u64) _, (Value.int .i64) 0]) = _
          refine congrArg (fun n : Int => Ending.returned (.tuple #[(Value.int .u64) n, (Value.int .i64) 0])) ?_
          exact (or_word r f u d _ r0 r7 f0 f1).trans (by unfold wordE; simp)
        · have l1 : 0 < l := by omega
          have hz := Lib.hid (show (l != 0) = true by simpa using lz)
          clear lz
          go_enter Try.func102, Try.ntmps102
          go_wp2_with fail
          refine (HC.out _).mono ?_; rintro e w2 ⟨rfl, bl⟩
          have h2 := h1.below bl
          obtain ⟨c0, c1, c2, c3, c4, c5⟩ := h2.cells6
          have v0 := via_cell c0
          have v1 := via_cell c1
          have v2 := via_cell c2
          have v3 := via_cell c3
          have v4 := via_cell c4
          have v5 := via_cell c5
          clear c1 c2 c3 c4 c5
          go_wp2
          refine wp_region_via (by kernel_rfl) (by kernel_rfl) ?_
          repeat (first | go_big_quiet_step ((go_at_call 141; exact Same.via (bit_any _ _ _))) | quiet_step ((go_at_call 141; exact Same.via (bit_any _ _ _))))
          refine wpQuiet_nil ?_
          intro _ hw'
          obtain ⟨uq, hw''⟩ := hw'
          subst hw''
          go_wp2
          go_ret2
          refine ⟨?_, below_of1 (h2.via _).right ((x1.below bl).below (via_below _ _))⟩
          rw [hy.out]
          show Ending.returned (.tuple #[(Value.int .u64) _, (Value.int .i64) 0]) = _
          refine congrArg (fun n : Int => Ending.returned (.tuple #[(Value.int .u64) n, (Value.int .i64) 0])) ?_
          exact (or_word r f u d _ r0 r7 f0 f1).trans (by unfold wordE; rw [hz.out]; simp)
  · have hy := Lib.hid (show encW ⟨th, leaf, r, u, d, f⟩ l = 0 from encW_fault hc)
    have hn : (entFault ⟨th, leaf, r, u, d, f⟩ l != 0) = true := by simpa using hc
    clear hc
    generalize entFault ⟨th, leaf, r, u, d, f⟩ l = c at *
    go_enter Try.func102, Try.ntmps102
    go_wp2_with fail
    refine (HC.out _).mono ?_; rintro e w2 ⟨rfl, bl⟩
    have h2 := h1.below bl
    go_wp2
    go_ret2
    exact ⟨by rw [hy.out]; rfl, below_of1 h2.right (x1.below bl)⟩
end Go.Proofs.Ytndhgomikpokpaa
