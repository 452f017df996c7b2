/- Contract of wayleaveref.LeafMap. -/
import Derived.Test.YtndhgomikpokpaaRefEnt
import Derived.Test.YtndhgomikpokpaaDecV
import Derived.Test.YtndhgomikpokpaaRet
import Derived.Deep.RegionHeld3
namespace Go.Proofs.Ytndhgomikpokpaa
open Go.RowKit
set_option maxRecDepth 100000

set_option maxHeartbeats 4000000 in
theorem refLeafMap_any (e : En) (l a : Int) (w : World) : Calls Try.prog 108 #[.agg #[Value.bool e.there, Value.bool e.leaf, (Value.int .i64) e.rights, Value.bool e.used, Value.bool e.dirty, (Value.int .i64) e.frame], .int .i64 l, .int .i64 a] w (Pure (leafMap e l a).val w) := by
  obtain ⟨th, leaf, r, u, d, f⟩ := e
  have h1 := (Has.new (has_old w) #[Value.bool th, Value.bool leaf, (Value.int .i64) r, Value.bool u, Value.bool d, (Value.int .i64) f] 58).new #[(Value.int .i64) 0, (Value.int .i64) 0, (Value.int .i64) 0, (Value.int .i64) 0] 27
  have x1 := ((Ext.refl w).alloc (.cells #[Value.bool th, Value.bool leaf, (Value.int .i64) r, Value.bool u, Value.bool d, (Value.int .i64) f] 58)).alloc (.cells #[(Value.int .i64) 0, (Value.int .i64) 0, (Value.int .i64) 0, (Value.int .i64) 0] 27)
  simp only [World.size_alloc] at h1
  have HC := Lib.hid (fun W => entryFault_any ⟨th, leaf, r, u, d, f⟩ l W)
  by_cases hc : entFault ⟨th, leaf, r, u, d, f⟩ l = 0
  · have hl := entFault_level hc
    cases leaf with
    | false =>
      have hy := Lib.hid (leafMap_no (e := ⟨th, false, r, u, d, f⟩) (l := l) (a := a) (.inr (.inl rfl)))
      rw [hc] at HC
      clear hc
      go_enter Try.func108, Try.ntmps108
      go_wp2_with fail
      refine (HC.out _).mono ?_; rintro e w2 ⟨rfl, bl⟩
      have h2 := h1.below bl
      have x2 := x1.below bl
      obtain ⟨c0, c1, c2, c3⟩ := h2.cells4
      obtain ⟨d0, d1, d2, d3, d4, d5⟩ := h2.right.cells6
      obtain ⟨f0, f1, f2, f3⟩ := h2.frees4
      have l2 := h2.lt
      go_wp2_with fail
      refine ret_via (fun wz => Has wz (blk (w.heap.size + 1) #[(Value.int .i64) 0, (Value.int .i64) 0, (Value.int .i64) 0, (Value.int .i64) 0] 27 * (blk w.heap.size _ 58 * old w w.heap.size)) ∧ Ext w wz) ⟨h2.set4 _ _ _ _, by (repeat (first | with_reducible assumption | with_reducible exact Ext.refl _ | with_reducible refine Ext.set ?_ _ _ | with_reducible refine Ext.alloc ?_ _ | with_reducible refine Ext.drew ?_ | with_reducible refine Ext.drewN ?_ _ | assumption | exact Ext.refl _ | refine Ext.alloc ?_ _ | refine Ext.set ?_ _ _ | refine Ext.drew ?_ | refine Ext.drewN ?_ _ | refine Ext.below ?_ (by assumption) | refine Ext.trans ?_ (by assumption)))⟩ ?_
      rintro wz ⟨hz, xz⟩
      exact bodyPost_ret (results_c Try.results108 rfl (load_map hz)) rfl ⟨by rw [hy.out]; rfl, below_of1 hz.right.right xz⟩
    | true =>
      by_cases a0 : 0 ≤ a
      · by_cases a1 : a < 4096
        · have hth : th = true := by
            cases th with
            | true => rfl
            | false =>
              have := entFault_not hc rfl
              simp [En.zero] at this
          subst hth
          have hl3 := ((entOk_of hc rfl).leaf rfl).1
          have hl0 := hl.1
          have hy := Lib.hid (show leafMap ⟨true, true, r, u, d, f⟩ l a = ⟨a / span l * span l, l, f, r⟩ by unfold leafMap; rw [if_pos ⟨hc, rfl, a0, a1⟩])
          rw [hc] at HC
          clear hc hl
          have hl : l = 0 ∨ l = 1 ∨ l = 2 := by omega
          clear hl0 hl3
          rcases hl with rfl | rfl | rfl
          · skip
            have hq := Lib.hid (show IntKind.i64.wrap a = a / span 0 * span 0 by rw [show span 0 = 1 from rfl]; first | (simp only [IntKind.wrap_i64]; omega) | (simp only [IntKind.wrap_i64, Int.tmod_eq_emod_of_nonneg a0]; omega))
            have hs' := Lib.hid (spanOf_any 0)
            rw [show span 0 = 1 from rfl] at hs'
            go_enter Try.func108, Try.ntmps108
            go_wp2_with fail
            refine (HC.out _).mono ?_; rintro e w2 ⟨rfl, bl⟩
            have h2 := h1.below bl
            have x2 := x1.below bl
            obtain ⟨c0, c1, c2, c3⟩ := h2.cells4
            obtain ⟨d0, d1, d2, d3, d4, d5⟩ := h2.right.cells6
            obtain ⟨f0, f1, f2, f3⟩ := h2.frees4
            have l2 := h2.lt
            clear HC h1 x1 bl
            go_wp2_with fail
            go_region_held3 (fun w' => w'.cell? ⟨w.heap.size, 5, none⟩ = some ((Value.int .i64) f) ∧ w'.cell? ⟨w.heap.size, 2, none⟩ = some ((Value.int .i64) r)) (go_keep) (first | (go_at_call 111; (with_reducible refine (hs'.out _).mono ?_); rintro e w' ⟨rfl, rfl⟩))
            go_wp2
            refine ret_via (fun wz => Has wz (blk (w.heap.size + 1) #[(Value.int .i64) (IntKind.i64.wrap a), (Value.int .i64) 0, (Value.int .i64) f, (Value.int .i64) r] 27 * (blk w.heap.size #[Value.bool true, Value.bool true, (Value.int .i64) r, Value.bool u, Value.bool d, (Value.int .i64) f] 58 * old w w.heap.size)) ∧ Ext w wz) ⟨(h2.set4 _ _ _ _).drew, by (repeat (first | with_reducible assumption | with_reducible exact Ext.refl _ | with_reducible refine Ext.set ?_ _ _ | with_reducible refine Ext.alloc ?_ _ | with_reducible refine Ext.drew ?_ | with_reducible refine Ext.drewN ?_ _ | assumption | exact Ext.refl _ | refine Ext.alloc ?_ _ | refine Ext.set ?_ _ _ | refine Ext.drew ?_ | refine Ext.drewN ?_ _ | refine Ext.below ?_ (by assumption) | refine Ext.trans ?_ (by assumption)))⟩ ?_
            rintro wz ⟨hz, xz⟩
            exact bodyPost_ret (results_c Try.results108 rfl (load_map hz)) rfl ⟨by rw [hy.out, ← hq.out]; rfl, below_of1 hz.right.right xz⟩
          · skip
            have hq := Lib.hid (show IntKind.i64.wrap (a - a.tmod 8) = a / span 1 * span 1 by rw [show span 1 = 8 from rfl]; first | (simp only [IntKind.wrap_i64]; omega) | (simp only [IntKind.wrap_i64, Int.tmod_eq_emod_of_nonneg a0]; omega))
            have hs' := Lib.hid (spanOf_any 1)
            rw [show span 1 = 8 from rfl] at hs'
            go_enter Try.func108, Try.ntmps108
            go_wp2_with fail
            refine (HC.out _).mono ?_; rintro e w2 ⟨rfl, bl⟩
            have h2 := h1.below bl
            have x2 := x1.below bl
            obtain ⟨c0, c1, c2, c3⟩ := h2.cells4
            obtain ⟨d0, d1, d2, d3, d4, d5⟩ := h2.right.cells6
            obtain ⟨f0, f1, f2, f3⟩ := h2.frees4
            have l2 := h2.lt
            clear HC h1 x1 bl
            go_wp2_with fail
            go_region_held3 (fun w' => w'.cell? ⟨w.heap.size, 5, none⟩ = some ((Value.int .i64) f) ∧ w'.cell? ⟨w.heap.size, 2, none⟩ = some ((Value.int .i64) r)) (go_keep) (first | (go_at_call 111; (with_reducible refine (hs'.out _).mono ?_); rintro e w' ⟨rfl, rfl⟩))
            go_wp2
            refine ret_via (fun wz => Has wz (blk (w.heap.size + 1) #[(Value.int .i64) (IntKind.i64.wrap (a - a.tmod 8)), (Value.int .i64) 1, (Value.int .i64) f, (Value.int .i64) r] 27 * (blk w.heap.size #[Value.bool true, Value.bool true, (Value.int .i64) r, Value.bool u, Value.bool d, (Value.int .i64) f] 58 * old w w.heap.size)) ∧ Ext w wz) ⟨(h2.set4 _ _ _ _).drew, by (repeat (first | with_reducible assumption | with_reducible exact Ext.refl _ | with_reducible refine Ext.set ?_ _ _ | with_reducible refine Ext.alloc ?_ _ | with_reducible refine Ext.drew ?_ | with_reducible refine Ext.drewN ?_ _ | assumption | exact Ext.refl _ | refine Ext.alloc ?_ _ | refine Ext.set ?_ _ _ | refine Ext.drew ?_ | refine Ext.drewN ?_ _ | refine Ext.below ?_ (by assumption) | refine Ext.trans ?_ (by assumption)))⟩ ?_
            rintro wz ⟨hz, xz⟩
            exact bodyPost_ret (results_c Try.results108 rfl (load_map hz)) rfl ⟨by rw [hy.out, ← hq.out]; rfl, below_of1 hz.right.right xz⟩
          · skip
            have hq := Lib.hid (show IntKind.i64.wrap (a - a.tmod 64) = a / span 2 * span 2 by rw [show span 2 = 64 from rfl]; first | (simp only [IntKind.wrap_i64]; omega) | (simp only [IntKind.wrap_i64, Int.tmod_eq_emod_of_nonneg a0]; omega))
            have hs' := Lib.hid (spanOf_any 2)
            rw [show span 2 = 64 from rfl] at hs'
            go_enter Try.func108, Try.ntmps108
            go_wp2_with fail
            refine (HC.out _).mono ?_; rintro e w2 ⟨rfl, bl⟩
            have h2 := h1.below bl
            have x2 := x1.below bl
            obtain ⟨c0, c1, c2, c3⟩ := h2.cells4
            obtain ⟨d0, d1, d2, d3, d4, d5⟩ := h2.right.cells6
            obtain ⟨f0, f1, f2, f3⟩ := h2.frees4
            have l2 := h2.lt
            clear HC h1 x1 bl
            go_wp2_with fail
            go_region_held3 (fun w' => w'.cell? ⟨w.heap.size, 5, none⟩ = some ((Value.int .i64) f) ∧ w'.cell? ⟨w.heap.size, 2, none⟩ = some ((Value.int .i64) r)) (go_keep) (first | (go_at_call 111; (with_reducible refine (hs'.out _).mono ?_); rintro e w' ⟨rfl, rfl⟩))
            go_wp2
            refine ret_via (fun wz => Has wz (blk (w.heap.size + 1) #[(Value.int .i64) (IntKind.i64.wrap (a - a.tmod 64)), (Value.int .i64) 2, (Value.int .i64) f, (Value.int .i64) r] 27 * (blk w.heap.size #[Value.bool true, Value.bool true, (Value.int .i64) r, Value.bool u, Value.bool d, (Value.int .i64) f] 58 * old w w.heap.size)) ∧ Ext w wz) ⟨(h2.set4 _ _ _ _).drew, by (repeat (first | with_reducible assumption | with_reducible exact Ext.refl _ | with_reducible refine Ext.set ?_ _ _ | with_reducible refine Ext.alloc ?_ _ | with_reducible refine Ext.drew ?_ | with_reducible refine Ext.drewN ?_ _ | assumption | exact Ext.refl _ | refine Ext.alloc ?_ _ | refine Ext.set ?_ _ _ | refine Ext.drew ?_ | refine Ext.drewN ?_ _ | refine Ext.below ?_ (by assumption) | refine Ext.trans ?_ (by assumption)))⟩ ?_
            rintro wz ⟨hz, xz⟩
            exact bodyPost_ret (results_c Try.results108 rfl (load_map hz)) rfl ⟨by rw [hy.out, ← hq.out]; rfl, below_of1 hz.right.right xz⟩
        · have hy := Lib.hid (leafMap_no (e := ⟨th, true, r, u, d, f⟩) (l := l) (a := a) (.inr (.inr (by unfold hasB; simp; omega))))
          rw [hc] at HC
          clear hc
          go_enter Try.func108, Try.ntmps108
          go_wp2_with fail
          refine (HC.out _).mono ?_; rintro e w2 ⟨rfl, bl⟩
          have h2 := h1.below bl
          have x2 := x1.below bl
          obtain ⟨c0, c1, c2, c3⟩ := h2.cells4
          obtain ⟨d0, d1, d2, d3, d4, d5⟩ := h2.right.cells6
          obtain ⟨f0, f1, f2, f3⟩ := h2.frees4
          have l2 := h2.lt
          go_wp2_with fail
          refine ret_via (fun wz => Has wz (blk (w.heap.size + 1) #[(Value.int .i64) 0, (Value.int .i64) 0, (Value.int .i64) 0, (Value.int .i64) 0] 27 * (blk w.heap.size _ 58 * old w w.heap.size)) ∧ Ext w wz) ⟨h2.set4 _ _ _ _, by (repeat (first | with_reducible assumption | with_reducible exact Ext.refl _ | with_reducible refine Ext.set ?_ _ _ | with_reducible refine Ext.alloc ?_ _ | with_reducible refine Ext.drew ?_ | with_reducible refine Ext.drewN ?_ _ | assumption | exact Ext.refl _ | refine Ext.alloc ?_ _ | refine Ext.set ?_ _ _ | refine Ext.drew ?_ | refine Ext.drewN ?_ _ | refine Ext.below ?_ (by assumption) | refine Ext.trans ?_ (by assumption)))⟩ ?_
          rintro wz ⟨hz, xz⟩
          exact bodyPost_ret (results_c Try.results108 rfl (load_map hz)) rfl ⟨by rw [hy.out]; rfl, below_of1 hz.right.right xz⟩
      · have hy := Lib.hid (leafMap_no (e := ⟨th, true, r, u, d, f⟩) (l := l) (a := a) (.inr (.inr (by unfold hasB; simp; omega))))
        rw [hc] at HC
        clear hc
        go_enter Try.func108, Try.ntmps108
        go_wp2_with fail
        refine (HC.out _).mono ?_; rintro e w2 ⟨rfl, bl⟩
        have h2 := h1.below bl
        have x2 := x1.below bl
        obtain ⟨c0, c1, c2, c3⟩ := h2.cells4
        obtain ⟨d0, d1, d2, d3, d4, d5⟩ := h2.right.cells6
        obtain ⟨f0, f1, f2, f3⟩ := h2.frees4
        have l2 := h2.lt
        go_wp2_with fail
        refine ret_via (fun wz => Has wz (blk (w.heap.size + 1) #[(Value.int .i64) 0, (Value.int .i64) 0, (Value.int .i64) 0, (Value.int .i64) 0] 27 * (blk w.heap.size _ 58 * old w w.heap.size)) ∧ Ext w wz) ⟨h2.set4 _ _ _ _, by (repeat (first | with_reducible assumption | with_reducible exact Ext.refl _ | with_reducible refine Ext.set ?_ _ _ | with_reducible refine Ext.alloc ?_ _ | with_reducible refine Ext.drew ?_ | with_reducible refine Ext.drewN ?_ _ | assumption | exact Ext.refl _ | refine Ext.alloc ?_ _ | refine Ext.set ?_ _ _ | refine Ext.drew ?_ | refine Ext.drewN ?_ _ | refine Ext.below ?_ (by assumption) | refine Ext.trans ?_ (by assumption)))⟩ ?_
        rintro wz ⟨hz, xz⟩
        exact bodyPost_ret (results_c Try.results108 rfl (load_map hz)) rfl ⟨by rw [hy.out]; rfl, below_of1 hz.right.right xz⟩
  · have hy := Lib.hid (leafMap_no (e := ⟨th, leaf, r, u, d, f⟩) (l := l) (a := a) (.inl hc))
    have hn : (entFault ⟨th, leaf, r, u, d, f⟩ l != 0) = true := by simpa using hc
    clear hc
    generalize entFault ⟨th, leaf, r, u, d, f⟩ l = c at *
    go_enter Try.func108, Try.ntmps108
    go_wp2_with fail
    refine (HC.out _).mono ?_; rintro e w2 ⟨rfl, bl⟩
    have h2 := h1.below bl
    have x2 := x1.below bl
    obtain ⟨c0, c1, c2, c3⟩ := h2.cells4
    obtain ⟨d0, d1, d2, d3, d4, d5⟩ := h2.right.cells6
    obtain ⟨f0, f1, f2, f3⟩ := h2.frees4
    have l2 := h2.lt
    go_wp2_with fail
    refine ret_via (fun wz => Has wz (blk (w.heap.size + 1) #[(Value.int .i64) 0, (Value.int .i64) 0, (Value.int .i64) 0, (Value.int .i64) 0] 27 * (blk w.heap.size _ 58 * old w w.heap.size)) ∧ Ext w wz) ⟨h2.set4 _ _ _ _, by (repeat (first | with_reducible assumption | with_reducible exact Ext.refl _ | with_reducible refine Ext.set ?_ _ _ | with_reducible refine Ext.alloc ?_ _ | with_reducible refine Ext.drew ?_ | with_reducible refine Ext.drewN ?_ _ | assumption | exact Ext.refl _ | refine Ext.alloc ?_ _ | refine Ext.set ?_ _ _ | refine Ext.drew ?_ | refine Ext.drewN ?_ _ | refine Ext.below ?_ (by assumption) | refine Ext.trans ?_ (by assumption)))⟩ ?_
    rintro wz ⟨hz, xz⟩
    exact bodyPost_ret (results_c Try.results108 rfl (load_map hz)) rfl ⟨by rw [hy.out]; rfl, below_of1 hz.right.right xz⟩
end Go.Proofs.Ytndhgomikpokpaa
