/- The contract of entry.Map. -/
import Derived.Test.YtmfheghbgihdmaaEntry2
import Derived.Test.YtmfheghbgihdmaaFrames2
import Derived.Deep.RegionHeld3
import Derived.Test.YtmfheghbgihdmaaWkFind
import Derived.StillTailTactics
import Derived.Deep.DeepCutAuto
namespace Go.Proofs.Ytmfheghbgihdmaa
open Go.RowKit
set_option maxRecDepth 100000
set_option maxHeartbeats 4000000 in
theorem entMap_any (e : En) (l a : Int) (w : World) : Calls Try.prog 54 #[.agg #[Value.bool e.there, Value.bool e.leaf, (Value.int .i64) e.rights, Value.bool e.used, Value.bool e.dirty, (Value.int .i64) e.frame], .int .i64 l, .int .i64 a] w (Pure (leafMap e l a).val w) := by
  obtain ⟨th, leaf, r, u, d, f⟩ := e
  have h1 := (Has.new (has_old w) #[Value.bool th, Value.bool leaf, (Value.int .i64) r, Value.bool u, Value.bool d, (Value.int .i64) f] 51).new #[(Value.int .i64) 0, (Value.int .i64) 0, (Value.int .i64) 0, (Value.int .i64) 0] 31
  have x1 := ((Ext.refl w).alloc (.cells #[Value.bool th, Value.bool leaf, (Value.int .i64) r, Value.bool u, Value.bool d, (Value.int .i64) f] 51)).alloc (.cells #[(Value.int .i64) 0, (Value.int .i64) 0, (Value.int .i64) 0, (Value.int .i64) 0] 31)
  simp only [World.size_alloc] at h1
  have HC := Lib.hid (fun W => entCheck_any ⟨th, leaf, r, u, d, f⟩ l W)
  have HH := Lib.hid (fun W => has_any a W)
  by_cases hc : entFault ⟨th, leaf, r, u, d, f⟩ l = 0
  · have hl := entFault_level hc
    cases leaf with
    | false =>
      have hy := Lib.hid (leafMap_no (e := ⟨th, false, r, u, d, f⟩) (l := l) (a := a) (.inr (.inl rfl)))
      rw [hc] at HC
      clear hc
      go_enter Try.func54, Try.ntmps54
      go_wp2_with fail
      refine (HC.out _).mono ?_; rintro e w2 ⟨rfl, bl⟩
      have h2 := h1.below bl
      have x2 := x1.below bl
      obtain ⟨c0, c1, c2, c3⟩ := h2.cells4
      obtain ⟨d0, d1, d2, d3, d4, d5⟩ := h2.right.cells6
      obtain ⟨f0, f1, f2, f3⟩ := h2.frees4
      have l2 := h2.lt
      go_wp2_with (go_at_call 68; refine (HH.out _).mono ?_; rintro e w' ⟨rfl, rfl⟩)
      refine ret_via (fun wz => Has wz (blk (w.heap.size + 1) #[(Value.int .i64) 0, (Value.int .i64) 0, (Value.int .i64) 0, (Value.int .i64) 0] 31 * (blk w.heap.size _ 51 * old w w.heap.size)) ∧ Ext w wz) ⟨h2.set4 _ _ _ _, by (repeat (first | with_reducible assumption | with_reducible exact Ext.refl _ | with_reducible refine Ext.set ?_ _ _ | with_reducible refine Ext.alloc ?_ _ | with_reducible refine Ext.drew ?_ | with_reducible refine Ext.drewN ?_ _ | assumption | exact Ext.refl _ | refine Ext.alloc ?_ _ | refine Ext.set ?_ _ _ | refine Ext.drew ?_ | refine Ext.drewN ?_ _ | refine Ext.below ?_ (by assumption) | refine Ext.trans ?_ (by assumption)))⟩ ?_
      rintro wz ⟨hz, xz⟩
      exact bodyPost_ret (results_c Try.results54 rfl (load_map hz)) rfl ⟨by rw [hy.out]; rfl, below_of1 hz.right.right xz⟩
    | true =>
      cases ha : hasB a with
      | false =>
        have hy := Lib.hid (leafMap_no (e := ⟨th, true, r, u, d, f⟩) (l := l) (a := a) (.inr (.inr ha)))
        rw [hc] at HC
        rw [ha] at HH
        clear hc ha
        go_enter Try.func54, Try.ntmps54
        go_wp2_with fail
        refine (HC.out _).mono ?_; rintro e w2 ⟨rfl, bl⟩
        have h2 := h1.below bl
        have x2 := x1.below bl
        obtain ⟨c0, c1, c2, c3⟩ := h2.cells4
        obtain ⟨d0, d1, d2, d3, d4, d5⟩ := h2.right.cells6
        obtain ⟨f0, f1, f2, f3⟩ := h2.frees4
        have l2 := h2.lt
        go_wp2_with (go_at_call 68; refine (HH.out _).mono ?_; rintro e w' ⟨rfl, rfl⟩)
        refine ret_via (fun wz => Has wz (blk (w.heap.size + 1) #[(Value.int .i64) 0, (Value.int .i64) 0, (Value.int .i64) 0, (Value.int .i64) 0] 31 * (blk w.heap.size _ 51 * old w w.heap.size)) ∧ Ext w wz) ⟨h2.set4 _ _ _ _, by (repeat (first | with_reducible assumption | with_reducible exact Ext.refl _ | with_reducible refine Ext.set ?_ _ _ | with_reducible refine Ext.alloc ?_ _ | with_reducible refine Ext.drew ?_ | with_reducible refine Ext.drewN ?_ _ | assumption | exact Ext.refl _ | refine Ext.alloc ?_ _ | refine Ext.set ?_ _ _ | refine Ext.drew ?_ | refine Ext.drewN ?_ _ | refine Ext.below ?_ (by assumption) | refine Ext.trans ?_ (by assumption)))⟩ ?_
        rintro wz ⟨hz, xz⟩
        exact bodyPost_ret (results_c Try.results54 rfl (load_map hz)) rfl ⟨by rw [hy.out]; rfl, below_of1 hz.right.right xz⟩
      | true =>
        have ha' : 0 ≤ a ∧ a < 4096 := by unfold hasB at ha; simpa using ha
        obtain ⟨a0, a1⟩ := ha'
        have hth : th = true := by
          cases th with
          | true => rfl
          | false =>
            have := entFault_not hc rfl
            simp [En.zero] at this
        subst hth
        have hl3 := ((entOk_of hc rfl).leaf rfl).1
        have hl0 := hl.1
        have hy := Lib.hid (show leafMap ⟨true, true, r, u, d, f⟩ l a = ⟨a / span l * span l, l, f, r⟩ by unfold leafMap; rw [if_pos ⟨hc, rfl, a0, a1⟩])
        rw [hc] at HC
        rw [ha] at HH
        clear hc ha hl
        have hl : l = 0 ∨ l = 1 ∨ l = 2 := by omega
        clear hl0 hl3
        rcases hl with rfl | rfl | rfl
        · skip
          have hq := Lib.hid (show IntKind.i64.wrap (IntKind.i64.wrap a) = a / span 0 * span 0 by rw [show span 0 = 1 from rfl]; first | (simp only [IntKind.wrap_i64]; omega) | (simp only [IntKind.wrap_i64, Int.tdiv_eq_ediv_of_nonneg a0]; omega))
          have hs' := Lib.hid (span_any 0)
          rw [show span 0 = 1 from rfl] at hs'
          have hr0 : i64 (a / 1 * 1) := ⟨by omega, by omega⟩
          go_enter Try.func54, Try.ntmps54
          go_wp2_with fail
          refine (HC.out _).mono ?_; rintro e w2 ⟨rfl, bl⟩
          have h2 := h1.below bl
          have x2 := x1.below bl
          obtain ⟨c0, c1, c2, c3⟩ := h2.cells4
          obtain ⟨d0, d1, d2, d3, d4, d5⟩ := h2.right.cells6
          obtain ⟨f0, f1, f2, f3⟩ := h2.frees4
          have l2 := h2.lt
          go_wp2_with (first | (go_at_call 68; refine (HH.out _).mono ?_; rintro e w' ⟨rfl, rfl⟩) | (go_at_call 84; refine (size_any _ _).mono ?_; rintro e w' ⟨rfl, rfl⟩) | (go_at_call 83; refine (hs'.out _).mono ?_; rintro e w' ⟨rfl, rfl⟩))
          go_region_held3 (fun w' => w'.cell? ⟨w.heap.size, 5, none⟩ = some ((Value.int .i64) f) ∧ w'.cell? ⟨w.heap.size, 2, none⟩ = some ((Value.int .i64) r)) (go_keep) (first | (go_at_call 84; (with_reducible refine (size_any _ _).mono ?_); rintro e w' ⟨rfl, rfl⟩))
          go_wp2
          refine ret_via (fun wz => Has wz (blk (w.heap.size + 1) #[(Value.int .i64) (IntKind.i64.wrap (IntKind.i64.wrap a)), (Value.int .i64) 0, (Value.int .i64) f, (Value.int .i64) r] 31 * (blk w.heap.size #[Value.bool true, Value.bool true, (Value.int .i64) r, Value.bool u, Value.bool d, (Value.int .i64) f] 51 * old w w.heap.size)) ∧ Ext w wz) ⟨(h2.set4 _ _ _ _).drew, by (repeat (first | with_reducible assumption | with_reducible exact Ext.refl _ | with_reducible refine Ext.set ?_ _ _ | with_reducible refine Ext.alloc ?_ _ | with_reducible refine Ext.drew ?_ | with_reducible refine Ext.drewN ?_ _ | assumption | exact Ext.refl _ | refine Ext.alloc ?_ _ | refine Ext.set ?_ _ _ | refine Ext.drew ?_ | refine Ext.drewN ?_ _ | refine Ext.below ?_ (by assumption) | refine Ext.trans ?_ (by assumption)))⟩ ?_
          rintro wz ⟨hz, xz⟩
          exact bodyPost_ret (results_c Try.results54 rfl (load_map hz)) rfl ⟨by rw [hy.out, ← hq.out]; rfl, below_of1 hz.right.right xz⟩
        · skip
          have hq := Lib.hid (show IntKind.i64.wrap (IntKind.i64.wrap (a.tdiv 8) * 8) = a / span 1 * span 1 by rw [show span 1 = 8 from rfl]; first | (simp only [IntKind.wrap_i64]; omega) | (simp only [IntKind.wrap_i64, Int.tdiv_eq_ediv_of_nonneg a0]; omega))
          have hs' := Lib.hid (span_any 1)
          rw [show span 1 = 8 from rfl] at hs'
          have hr0 : i64 (a / 8 * 8) := ⟨by omega, by omega⟩
          go_enter Try.func54, Try.ntmps54
          go_wp2_with fail
          refine (HC.out _).mono ?_; rintro e w2 ⟨rfl, bl⟩
          have h2 := h1.below bl
          have x2 := x1.below bl
          obtain ⟨c0, c1, c2, c3⟩ := h2.cells4
          obtain ⟨d0, d1, d2, d3, d4, d5⟩ := h2.right.cells6
          obtain ⟨f0, f1, f2, f3⟩ := h2.frees4
          have l2 := h2.lt
          go_wp2_with (first | (go_at_call 68; refine (HH.out _).mono ?_; rintro e w' ⟨rfl, rfl⟩) | (go_at_call 84; refine (size_any _ _).mono ?_; rintro e w' ⟨rfl, rfl⟩) | (go_at_call 83; refine (hs'.out _).mono ?_; rintro e w' ⟨rfl, rfl⟩))
          go_region_held3 (fun w' => w'.cell? ⟨w.heap.size, 5, none⟩ = some ((Value.int .i64) f) ∧ w'.cell? ⟨w.heap.size, 2, none⟩ = some ((Value.int .i64) r)) (go_keep) (first | (go_at_call 84; (with_reducible refine (size_any _ _).mono ?_); rintro e w' ⟨rfl, rfl⟩))
          go_wp2
          refine ret_via (fun wz => Has wz (blk (w.heap.size + 1) #[(Value.int .i64) (IntKind.i64.wrap (IntKind.i64.wrap (a.tdiv 8) * 8)), (Value.int .i64) 1, (Value.int .i64) f, (Value.int .i64) r] 31 * (blk w.heap.size #[Value.bool true, Value.bool true, (Value.int .i64) r, Value.bool u, Value.bool d, (Value.int .i64) f] 51 * old w w.heap.size)) ∧ Ext w wz) ⟨(h2.set4 _ _ _ _).drew, by (repeat (first | with_reducible assumption | with_reducible exact Ext.refl _ | with_reducible refine Ext.set ?_ _ _ | with_reducible refine Ext.alloc ?_ _ | with_reducible refine Ext.drew ?_ | with_reducible refine Ext.drewN ?_ _ | assumption | exact Ext.refl _ | refine Ext.alloc ?_ _ | refine Ext.set ?_ _ _ | refine Ext.drew ?_ | refine Ext.drewN ?_ _ | refine Ext.below ?_ (by assumption) | refine Ext.trans ?_ (by assumption)))⟩ ?_
          rintro wz ⟨hz, xz⟩
          exact bodyPost_ret (results_c Try.results54 rfl (load_map hz)) rfl ⟨by rw [hy.out, ← hq.out]; rfl, below_of1 hz.right.right xz⟩
        · skip
          have hq := Lib.hid (show IntKind.i64.wrap (IntKind.i64.wrap (a.tdiv 64) * 64) = a / span 2 * span 2 by rw [show span 2 = 64 from rfl]; first | (simp only [IntKind.wrap_i64]; omega) | (simp only [IntKind.wrap_i64, Int.tdiv_eq_ediv_of_nonneg a0]; omega))
          have hs' := Lib.hid (span_any 2)
          rw [show span 2 = 64 from rfl] at hs'
          have hr0 : i64 (a / 64 * 64) := ⟨by omega, by omega⟩
          go_enter Try.func54, Try.ntmps54
          go_wp2_with fail
          refine (HC.out _).mono ?_; rintro e w2 ⟨rfl, bl⟩
          have h2 := h1.below bl
          have x2 := x1.below bl
          obtain ⟨c0, c1, c2, c3⟩ := h2.cells4
          obtain ⟨d0, d1, d2, d3, d4, d5⟩ := h2.right.cells6
          obtain ⟨f0, f1, f2, f3⟩ := h2.frees4
          have l2 := h2.lt
          go_wp2_with (first | (go_at_call 68; refine (HH.out _).mono ?_; rintro e w' ⟨rfl, rfl⟩) | (go_at_call 84; refine (size_any _ _).mono ?_; rintro e w' ⟨rfl, rfl⟩) | (go_at_call 83; refine (hs'.out _).mono ?_; rintro e w' ⟨rfl, rfl⟩))
          go_region_held3 (fun w' => w'.cell? ⟨w.heap.size, 5, none⟩ = some ((Value.int .i64) f) ∧ w'.cell? ⟨w.heap.size, 2, none⟩ = some ((Value.int .i64) r)) (go_keep) (first | (go_at_call 84; (with_reducible refine (size_any _ _).mono ?_); rintro e w' ⟨rfl, rfl⟩))
          go_wp2
          refine ret_via (fun wz => Has wz (blk (w.heap.size + 1) #[(Value.int .i64) (IntKind.i64.wrap (IntKind.i64.wrap (a.tdiv 64) * 64)), (Value.int .i64) 2, (Value.int .i64) f, (Value.int .i64) r] 31 * (blk w.heap.size #[Value.bool true, Value.bool true, (Value.int .i64) r, Value.bool u, Value.bool d, (Value.int .i64) f] 51 * old w w.heap.size)) ∧ Ext w wz) ⟨(h2.set4 _ _ _ _).drew, by (repeat (first | with_reducible assumption | with_reducible exact Ext.refl _ | with_reducible refine Ext.set ?_ _ _ | with_reducible refine Ext.alloc ?_ _ | with_reducible refine Ext.drew ?_ | with_reducible refine Ext.drewN ?_ _ | assumption | exact Ext.refl _ | refine Ext.alloc ?_ _ | refine Ext.set ?_ _ _ | refine Ext.drew ?_ | refine Ext.drewN ?_ _ | refine Ext.below ?_ (by assumption) | refine Ext.trans ?_ (by assumption)))⟩ ?_
          rintro wz ⟨hz, xz⟩
          exact bodyPost_ret (results_c Try.results54 rfl (load_map hz)) rfl ⟨by rw [hy.out, ← hq.out]; rfl, below_of1 hz.right.right xz⟩
  · have hy := Lib.hid (leafMap_no (e := ⟨th, leaf, r, u, d, f⟩) (l := l) (a := a) (.inl hc))
    have hn : (entFault ⟨th, leaf, r, u, d, f⟩ l != 0) = true := by simpa using hc
    clear hc
    generalize entFault ⟨th, leaf, r, u, d, f⟩ l = c at *
    go_enter Try.func54, Try.ntmps54
    go_wp2_with fail
    refine (HC.out _).mono ?_; rintro e w2 ⟨rfl, bl⟩
    have h2 := h1.below bl
    have x2 := x1.below bl
    obtain ⟨c0, c1, c2, c3⟩ := h2.cells4
    obtain ⟨d0, d1, d2, d3, d4, d5⟩ := h2.right.cells6
    obtain ⟨f0, f1, f2, f3⟩ := h2.frees4
    have l2 := h2.lt
    go_wp2_with (go_at_call 68; refine (HH.out _).mono ?_; rintro e w' ⟨rfl, rfl⟩)
    refine ret_via (fun wz => Has wz (blk (w.heap.size + 1) #[(Value.int .i64) 0, (Value.int .i64) 0, (Value.int .i64) 0, (Value.int .i64) 0] 31 * (blk w.heap.size _ 51 * old w w.heap.size)) ∧ Ext w wz) ⟨h2.set4 _ _ _ _, by (repeat (first | with_reducible assumption | with_reducible exact Ext.refl _ | with_reducible refine Ext.set ?_ _ _ | with_reducible refine Ext.alloc ?_ _ | with_reducible refine Ext.drew ?_ | with_reducible refine Ext.drewN ?_ _ | assumption | exact Ext.refl _ | refine Ext.alloc ?_ _ | refine Ext.set ?_ _ _ | refine Ext.drew ?_ | refine Ext.drewN ?_ _ | refine Ext.below ?_ (by assumption) | refine Ext.trans ?_ (by assumption)))⟩ ?_
    rintro wz ⟨hz, xz⟩
    exact bodyPost_ret (results_c Try.results54 rfl (load_map hz)) rfl ⟨by rw [hy.out]; rfl, below_of1 hz.right.right xz⟩
end Go.Proofs.Ytmfheghbgihdmaa
namespace Go.Proofs.Ytmfheghbgihdmaa
open Go.RowKit
set_option maxRecDepth 100000
theorem markedW (b : Nat) (root : Int) (c : Ck) (w : Int) (e : En) (R : HProp) (W : World) (h : Has W (wkBlk b root c w e * R)) :
    Calls Try.prog 73 #[.pointer (some ⟨b, 0, none⟩)] W (Pure (.agg #[Value.bool (markE e c.a).there, Value.bool (markE e c.a).leaf, (Value.int .i64) (markE e c.a).rights, Value.bool (markE e c.a).used, Value.bool (markE e c.a).dirty, (Value.int .i64) (markE e c.a).frame]) W) := by
  unfold wkBlk at h
  obtain ⟨th, lf, rg, us, di, fr⟩ := e
  obtain ⟨k0, k1, k2, k3, k4, k5, k6, k7, k8, k9, k10, k11, k12, k13⟩ := h.cells14
  have kl := h.lt
  unfold markE
  dsimp only
  cases di with
  | true =>
    have hz0 := ((has_old W).new #[Value.bool th, Value.bool lf, (Value.int .i64) rg, Value.bool true, Value.bool true, (Value.int .i64) fr] 51).alloc (.cells #[Value.bool th, Value.bool lf, (Value.int .i64) rg, Value.bool true, Value.bool true, (Value.int .i64) fr] 51)
    clear h k0 k1 k2 k4 k5 k6 k7
    go_enter Try.func73, Try.ntmps73
    go_wp2
    refine ret_via (fun wz => Has wz (blk W.heap.size #[Value.bool th, Value.bool lf, (Value.int .i64) rg, Value.bool true, Value.bool true, (Value.int .i64) fr] 51 * (old W W.heap.size)) ∧ Ext W wz) ⟨hz0, by (repeat (first | with_reducible assumption | with_reducible exact Ext.refl _ | with_reducible refine Ext.set ?_ _ _ | with_reducible refine Ext.alloc ?_ _ | with_reducible refine Ext.drew ?_ | with_reducible refine Ext.drewN ?_ _ | assumption | exact Ext.refl _ | refine Ext.alloc ?_ _ | refine Ext.set ?_ _ _ | refine Ext.drew ?_ | refine Ext.drewN ?_ _ | refine Ext.below ?_ (by assumption) | refine Ext.trans ?_ (by assumption)))⟩ ?_
    rintro wz ⟨hz, xz⟩
    exact bodyPost_ret (results_c Try.results73 rfl (load_entry hz)) rfl ⟨rfl, below_of1 hz.right xz⟩
  | false =>
    have hz0 := ((has_old W).new #[Value.bool th, Value.bool lf, (Value.int .i64) rg, Value.bool true, Value.bool (c.a.kind == 1), (Value.int .i64) fr] 51).alloc (.cells #[Value.bool th, Value.bool lf, (Value.int .i64) rg, Value.bool true, Value.bool (c.a.kind == 1), (Value.int .i64) fr] 51)
    clear h k0 k1 k2 k4 k5 k6 k7
    go_enter Try.func73, Try.ntmps73
    go_wp2
    refine ret_via (fun wz => Has wz (blk W.heap.size #[Value.bool th, Value.bool lf, (Value.int .i64) rg, Value.bool true, Value.bool (c.a.kind == 1), (Value.int .i64) fr] 51 * (old W W.heap.size)) ∧ Ext W wz) ⟨hz0, by (repeat (first | with_reducible assumption | with_reducible exact Ext.refl _ | with_reducible refine Ext.set ?_ _ _ | with_reducible refine Ext.alloc ?_ _ | with_reducible refine Ext.drew ?_ | with_reducible refine Ext.drewN ?_ _ | assumption | exact Ext.refl _ | refine Ext.alloc ?_ _ | refine Ext.set ?_ _ _ | refine Ext.drew ?_ | refine Ext.drewN ?_ _ | refine Ext.below ?_ (by assumption) | refine Ext.trans ?_ (by assumption)))⟩ ?_
    rintro wz ⟨hz, xz⟩
    exact bodyPost_ret (results_c Try.results73 rfl (load_entry hz)) rfl ⟨rfl, below_of1 hz.right xz⟩
theorem run_field4 (th lf us di : Bool) (rg fr : Int) (X : World) : (Instr.field 51 (.agg #[Value.bool th, Value.bool lf, (Value.int .i64) rg, Value.bool us, Value.bool di, (Value.int .i64) fr]) 4).run Try.prog X = .ok (Value.bool di) X := by kernel_rfl
theorem run_build_line (p s f r : Int) (d : Bool) (X : World) : (Instr.build 100 #[(0, .agg #[(Value.int .i64) p, (Value.int .i64) s, (Value.int .i64) f, (Value.int .i64) r]), (1, Value.bool d)]).run Try.prog X = .ok (.agg #[(Value.int .i64) p, (Value.int .i64) s, (Value.int .i64) f, (Value.int .i64) r, Value.bool d]) X := by kernel_rfl
theorem Good.const {md : Region.Mode} {ops : Array Oper} {i : Nat} {p : World → Prop} : Good md ops i (fun _ w => p w) := ⟨fun _ _ h => h, fun _ _ _ _ _ _ _ _ _ _ h => h⟩
set_option maxHeartbeats 4000000 in
theorem doneW' (b : Nat) (root : Int) (c : Ck) (w : Int) (e me : En) (m : Mp) (an : An) (HME : Hid (markE e c.a = me)) (HLM : Hid (leafMap e c.level c.a.page = m)) (HAN : Hid (answer m ⟨c.a.page, c.a.kind, c.a.user⟩ = an)) (R : HProp) (W : World) (h : Has W (wkBlk b root c w e * R)) :
    Calls Try.prog 77 #[.pointer (some ⟨b, 0, none⟩)] W (Res (RsV ⟨true, an, ⟨m, me.dirty⟩⟩) (wkBlk b root c.idle w e * R) W) := by
  have h1 : Has (W.alloc (.cells #[Value.bool false, (Value.int .i64) 0, (Value.int .i64) 0, (Value.int .i64) 0, (Value.int .i64) 0, (Value.int .i64) 0, (Value.int .i64) 0, (Value.int .i64) 0, Value.bool false] 106)) (wkBlk b root c w e * (blk W.heap.size #[Value.bool false, (Value.int .i64) 0, (Value.int .i64) 0, (Value.int .i64) 0, (Value.int .i64) 0, (Value.int .i64) 0, (Value.int .i64) 0, (Value.int .i64) 0, Value.bool false] 106 * R)) := (h.new #[Value.bool false, (Value.int .i64) 0, (Value.int .i64) 0, (Value.int .i64) 0, (Value.int .i64) 0, (Value.int .i64) 0, (Value.int .i64) 0, (Value.int .i64) 0, Value.bool false] 106).p2
  have x1 := (Ext.refl W).alloc (.cells #[Value.bool false, (Value.int .i64) 0, (Value.int .i64) 0, (Value.int .i64) 0, (Value.int .i64) 0, (Value.int .i64) 0, (Value.int .i64) 0, (Value.int .i64) 0, Value.bool false] 106)
  have HE := Lib.hid (fun X => entMap_any e c.level c.a.page X)
  rw [HLM.out] at HE
  have HM := Lib.hid (fun R X h => markedW b root c w e R X h)
  rw [HME.out] at HM
  obtain ⟨mt, ml, mr, mu, md, mf⟩ := me
  dsimp only at HM ⊢
  have HN := Lib.hid (fun an ln R X h => endW b root c w e an ln R X h)
  have HA := Lib.hid (fun X => answer_any m c.a.page c.a.kind c.a.user X)
  rw [HAN.out] at HA
  go_enter Try.func77, Try.ntmps77
  go_upto_region 1 with fail
  generalize W.alloc (.cells #[Value.bool false, (Value.int .i64) 0, (Value.int .i64) 0, (Value.int .i64) 0, (Value.int .i64) 0, (Value.int .i64) 0, (Value.int .i64) 0, (Value.int .i64) 0, Value.bool false] 106) = W1 at *
  generalize W.heap.size = X1 at *
  clear h
  have hb := h1
  unfold wkBlk at hb
  obtain ⟨k0, k1, k2, k3, k4, k5, k6, k7, k8, k9, k10, k11, k12, k13⟩ := hb.cells14
  have kl := hb.lt
  clear hb
  have HK := Lib.hid (fun (w' : World) (P : HProp) (h : Has w' (wkBlk b root c w e * P)) => (by
    unfold wkBlk at h
    obtain ⟨k0, k1, k2, k3, k4, k5, k6, k7, k8, k9, k10, k11, k12, k13⟩ := h.cells14
    exact ⟨k2, k5, k8, k9, k10, k11, k12, k13⟩ : (w'.cell? ⟨b, 2, none⟩ = some ((Value.int .i64) c.a.page) ∧ w'.cell? ⟨b, 5, none⟩ = some ((Value.int .i64) c.level) ∧ w'.cell? ⟨b, 8, none⟩ = some (Value.bool e.there) ∧ w'.cell? ⟨b, 9, none⟩ = some (Value.bool e.leaf) ∧ w'.cell? ⟨b, 10, none⟩ = some ((Value.int .i64) e.rights) ∧ w'.cell? ⟨b, 11, none⟩ = some (Value.bool e.used) ∧ w'.cell? ⟨b, 12, none⟩ = some (Value.bool e.dirty) ∧ w'.cell? ⟨b, 13, none⟩ = some ((Value.int .i64) e.frame))))
  clear k0 k1 k3 k4 k6 k7
  go_cut [3] (fun s3 wx => ∃ X : Nat, s3 = .pointer (some ⟨X, 0, none⟩) ∧ Has wx (wkBlk b root c w e * (blk X #[(Value.int .i64) m.page, (Value.int .i64) m.size, (Value.int .i64) m.frame, (Value.int .i64) m.rights] 31 * (blk X1 #[Value.bool false, (Value.int .i64) 0, (Value.int .i64) 0, (Value.int .i64) 0, (Value.int .i64) 0, (Value.int .i64) 0, (Value.int .i64) 0, (Value.int .i64) 0, Value.bool false] 106 * R))) ∧ Ext W wx)
  case first =>
    go_region_held3 (fun w' => (w'.cell? ⟨b, 2, none⟩ = some ((Value.int .i64) c.a.page) ∧ w'.cell? ⟨b, 5, none⟩ = some ((Value.int .i64) c.level) ∧ w'.cell? ⟨b, 8, none⟩ = some (Value.bool e.there) ∧ w'.cell? ⟨b, 9, none⟩ = some (Value.bool e.leaf) ∧ w'.cell? ⟨b, 10, none⟩ = some ((Value.int .i64) e.rights) ∧ w'.cell? ⟨b, 11, none⟩ = some (Value.bool e.used) ∧ w'.cell? ⟨b, 12, none⟩ = some (Value.bool e.dirty) ∧ w'.cell? ⟨b, 13, none⟩ = some ((Value.int .i64) e.frame))) (first | (with_reducible exact HK.out _ _ h2) | (with_reducible exact HK.out _ _ (h2.alloc _)) | (with_reducible exact HK.out _ _ g2.right) | (with_reducible exact HK.out _ _ (h1.drew.alloc _)) | (with_reducible exact HK.out _ _ (g2.set4 _ _ _ _).right) | go_keep) (first | (go_at_call 54; first | ((with_reducible refine (HE.out _).mono ?_); rintro e2 w2 ⟨rfl, b2⟩; first | (have h2 := h1.drew.below b2; have x2 := x1.drew.below b2) | (have g2 : Has w2 (blk W1.heap.size #[(Value.int .i64) 0, (Value.int .i64) 0, (Value.int .i64) 0, (Value.int .i64) 0] 31 * (wkBlk b root c w e * (blk X1 #[Value.bool false, (Value.int .i64) 0, (Value.int .i64) 0, (Value.int .i64) 0, (Value.int .i64) 0, (Value.int .i64) 0, (Value.int .i64) 0, (Value.int .i64) 0, Value.bool false] 106 * R))) := (h1.drew.new #[(Value.int .i64) 0, (Value.int .i64) 0, (Value.int .i64) 0, (Value.int .i64) 0] 31).below b2; have x2 := (x1.drew.alloc _).below b2; obtain ⟨f0, f1, f2, f3⟩ := g2.frees4; obtain ⟨d0, d1, d2, d3⟩ := g2.cells4; have dl := g2.lt))))
    all_goals
      go_wp2_with fail
      go_meet
      case rel => first | exact ⟨_, rfl, (h2.new #[(Value.int .i64) m.page, (Value.int .i64) m.size, (Value.int .i64) m.frame, (Value.int .i64) m.rights] 31).p2, x2.alloc _⟩ | exact ⟨_, rfl, (g2.set4 _ _ _ _).p2, (((x2.set _ _).set _ _).set _ _).set _ _⟩
  case rest =>
    obtain ⟨X, rfl, h2, x2⟩ := hcut
    clear k2 k5 k8 k9 k10 k11 k12 k13 kl HK h1 x1 HE
    have hb := h2
    unfold wkBlk at hb
    obtain ⟨k0, k1, k2, k3, k4, k5, k6, k7, k8, k9, k10, k11, k12, k13⟩ := hb.cells14
    have kl := hb.lt
    clear hb k0 k1 k5 k6 k7 k8 k9 k10 k11 k12 k13
    have cX := h2.right.cells4
    have lX := h2.right.lt
    have HKX := Lib.hid (fun (w' : World) (P : HProp) (h : Has w' (blk X #[(Value.int .i64) m.page, (Value.int .i64) m.size, (Value.int .i64) m.frame, (Value.int .i64) m.rights] 31 * P)) => h.cells4)
    have HKA := Lib.hid (fun (w' : World) (P : HProp) (h : Has w' (wkBlk b root c w e * P)) => (by
      unfold wkBlk at h
      exact ⟨h.cell 2, h.cell 3, h.cell 4⟩ : w'.cell? ⟨b, 2, none⟩ = some ((Value.int .i64) c.a.page) ∧ w'.cell? ⟨b, 3, none⟩ = some ((Value.int .i64) c.a.kind) ∧ w'.cell? ⟨b, 4, none⟩ = some (Value.bool c.a.user)))
    go_wp2_with fail
    refine region_L (S := fun L w' => (w'.cell? ⟨X, 0, none⟩ = some ((Value.int .i64) m.page) ∧ w'.cell? ⟨X, 1, none⟩ = some ((Value.int .i64) m.size) ∧ w'.cell? ⟨X, 2, none⟩ = some ((Value.int .i64) m.frame) ∧ w'.cell? ⟨X, 3, none⟩ = some ((Value.int .i64) m.rights)) ∧ Till 6 5 (fun w' => w'.cell? ⟨b, 2, none⟩ = some ((Value.int .i64) c.a.page) ∧ w'.cell? ⟨b, 3, none⟩ = some ((Value.int .i64) c.a.kind) ∧ w'.cell? ⟨b, 4, none⟩ = some (Value.bool c.a.user)) L w') (by kernel_rfl) ⟨cX, Till.start ⟨k2, k3, k4⟩⟩ (fun hHeld => ?_)
    refine anyL_take (i := 0) (v := ?_) rfl (by kernel_rfl) (by kernel_rfl) (by kernel_rfl) (fun _ _ _ h => h) (Good.and Good.const (Good.till (by decide) ⟨_, ⟨5, .data⟩, rfl, by simp, rfl, rfl⟩)) (Or.inl ⟨by kernel_rfl, ?_⟩) hHeld (fun hHeld => ?_)
    rotate_left
    focus (intro wS hSw; obtain ⟨Lx, hLx, hs1, hs2⟩ := hSw; skip; go_simp; first | done | with_reducible rfl)
    try go_simp
    refine anyL_take (i := 1) (v := ?_) rfl (by kernel_rfl) (by kernel_rfl) (by kernel_rfl) (fun _ _ _ h => h) (Good.and Good.const (Good.till (by decide) ⟨_, ⟨5, .data⟩, rfl, by simp, rfl, rfl⟩)) (Or.inl ⟨by kernel_rfl, ?_⟩) hHeld (fun hHeld => ?_)
    rotate_left
    focus (intro wS hSw; obtain ⟨Lx, hLx, hs1, hs2⟩ := hSw; obtain ⟨s0, s1, s2, s3⟩ := hs1; go_simp; first | done | with_reducible rfl)
    try go_simp
    refine anyL_take (i := 2) (v := ?_) rfl (by kernel_rfl) (by kernel_rfl) (by kernel_rfl) (fun _ _ _ h => h) (Good.and Good.const (Good.till (by decide) ⟨_, ⟨5, .data⟩, rfl, by simp, rfl, rfl⟩)) (Or.inl ⟨by kernel_rfl, ?_⟩) hHeld (fun hHeld => ?_)
    rotate_left
    focus (intro wS hSw; obtain ⟨Lx, hLx, hs1, hs2⟩ := hSw; skip; go_simp; first | done | with_reducible rfl)
    try go_simp
    refine anyL_take (i := 3) (v := ?_) rfl (by kernel_rfl) (by kernel_rfl) (by kernel_rfl) (fun _ _ _ h => h) (Good.and Good.const (Good.till (by decide) ⟨_, ⟨5, .data⟩, rfl, by simp, rfl, rfl⟩)) (Or.inl ⟨by kernel_rfl, ?_⟩) hHeld (fun hHeld => ?_)
    rotate_left
    focus (intro wS hSw; obtain ⟨Lx, hLx, hs1, hs2⟩ := hSw; skip; go_simp; first | done | with_reducible rfl)
    try go_simp
    refine anyL_take (i := 4) (v := ?_) rfl (by kernel_rfl) (by kernel_rfl) (by kernel_rfl) (fun _ _ _ h => h) (Good.and Good.const (Good.till (by decide) ⟨_, ⟨5, .data⟩, rfl, by simp, rfl, rfl⟩)) (Or.inl ⟨by kernel_rfl, ?_⟩) hHeld (fun hHeld => ?_)
    rotate_left
    focus (intro wS hSw; obtain ⟨Lx, hLx, hs1, hs2⟩ := hSw; skip; go_simp; first | done | with_reducible rfl)
    try go_simp
    refine anyL_take (i := 5) (v := ?_) rfl (by kernel_rfl) (by kernel_rfl) (by kernel_rfl) (fun _ _ _ h => h) (Good.and Good.const (Good.till (by decide) ⟨_, ⟨5, .data⟩, rfl, by simp, rfl, rfl⟩)) (Or.inl ⟨by kernel_rfl, ?_⟩) hHeld (fun hHeld => ?_)
    rotate_left
    focus (intro wS hSw; obtain ⟨Lx, hLx, hs1, hs2⟩ := hSw; obtain ⟨s0, s1, s2⟩ := hs2.still hLx; go_simp; first | done | with_reducible rfl)
    try go_simp
    refine anyL_take (i := 7) (v := ?_) rfl (by kernel_rfl) (by kernel_rfl) (by kernel_rfl) (fun _ _ _ h => h) (Good.and Good.const (Good.till (by decide) ⟨_, ⟨5, .data⟩, rfl, by simp, rfl, rfl⟩)) (Or.inl ⟨by kernel_rfl, ?_⟩) hHeld (fun hHeld => ?_)
    rotate_left
    focus (intro wS hSw; obtain ⟨Lx, hLx, hs1, hs2⟩ := hSw; obtain ⟨s0, s1, s2, s3⟩ := hs1; go_simp; first | done | with_reducible rfl)
    try go_simp
    refine anyL_take (i := 8) (v := ?_) rfl (by kernel_rfl) (by kernel_rfl) (by kernel_rfl) (fun _ _ _ h => h) (Good.and Good.const (Good.till (by decide) ⟨_, ⟨5, .data⟩, rfl, by simp, rfl, rfl⟩)) (Or.inl ⟨by kernel_rfl, ?_⟩) hHeld (fun hHeld => ?_)
    rotate_left
    focus (intro wS hSw; obtain ⟨Lx, hLx, hs1, hs2⟩ := hSw; skip; go_simp; first | done | with_reducible rfl)
    try go_simp
    refine anyL_ready (rs := [6]) (by kernel_rfl) (by simp) ?_
    refine OneOf.cons rfl (fun K hK => ?_) OneOf.nil
    go_simp
    go_wp2_with (refine (HA.out _).mono ?_; rintro e2 w5 ⟨rfl, b5⟩)
    have h5 := h2.drew.below b5
    have x5 := x2.drew.below b5
    refine hK.out _ _ ⟨HKX.out _ _ h5.right, ⟨fun _ => by kernel_rfl, fun h => till_gone (by kernel_rfl) h⟩⟩ (fun hHeld => ?_)
    clear hK K
    refine anyL_ready (rs := [9]) (by kernel_rfl) (by simp) ?_
    refine OneOf.cons rfl (fun K hK => ?_) OneOf.nil
    go_simp
    go_wp2_with (refine (HM.out _ _ h5).mono ?_; rintro e2 w6 ⟨rfl, b6⟩)
    have h6 := h5.below b6
    have x6 := x5.below b6
    refine hK.out _ _ ⟨HKX.out _ _ h6.right, ⟨fun _ => by kernel_rfl, fun h => till_gone (by kernel_rfl) h⟩⟩ (fun hHeld => ?_)
    clear hK K
    have hfl := fun X => run_field4 mt ml mu md mr mf X
    refine anyL_ready (rs := [10]) (by kernel_rfl) (by simp) ?_
    refine OneOf.cons rfl (fun K hK => ?_) OneOf.nil
    go_simp
    refine hK.out _ _ ⟨HKX.out _ _ h6.right, ⟨fun _ => by kernel_rfl, fun h => till_gone (by kernel_rfl) h⟩⟩ (fun hHeld => ?_)
    clear hK K
    have hbl := fun X => run_build_line m.page m.size m.frame m.rights md X
    refine anyL_ready (rs := [11]) (by kernel_rfl) (by simp) ?_
    refine OneOf.cons rfl (fun K hK => ?_) OneOf.nil
    go_simp
    refine hK.out _ _ ⟨HKX.out _ _ h6.right, ⟨fun _ => by kernel_rfl, fun h => till_gone (by kernel_rfl) h⟩⟩ (fun hHeld => ?_)
    clear hK K
    refine anyL_ready (rs := [12]) (by kernel_rfl) (by simp) ?_
    refine OneOf.cons rfl (fun K hK => ?_) OneOf.nil
    go_simp
    go_wp2_with (refine (HN.out an ⟨m, md⟩ _ _ h6).mono ?_; rintro e2 w7 ⟨rfl, h7, x7⟩)
    have x8 := x6.trans x7
    refine hK.out _ _ ⟨HKX.out _ _ h7.right, ⟨fun _ => by kernel_rfl, fun h => till_gone (by kernel_rfl) h⟩⟩ (fun hHeld => ?_)
    clear hK K
    have h8 := h7.right.right
    have r0 := h8.free 0
    have r1 := h8.free 1
    have r2 := h8.free 2
    have r3 := h8.free 3
    have r4 := h8.free 4
    have r5 := h8.free 5
    have r6 := h8.free 6
    have r7 := h8.free 7
    have r8 := h8.free 8
    have rl := h8.lt
    obtain ⟨s0, s1, s2, s3, s4, s5, s6, s7, s8⟩ := h8.cells9
    have h9 : Has w7 (blk X1 #[Value.bool false, (Value.int .i64) 0, (Value.int .i64) 0, (Value.int .i64) 0, (Value.int .i64) 0, (Value.int .i64) 0, (Value.int .i64) 0, (Value.int .i64) 0, Value.bool false] 106 * (wkBlk b root c.idle w e * (blk X #[(Value.int .i64) m.page, (Value.int .i64) m.size, (Value.int .i64) m.frame, (Value.int .i64) m.rights] 31 * R))) := h7.eq (by ac_rfl)
    have h9x : Has w7 (blk X1 #[Value.bool false, (Value.int .i64) 0, (Value.int .i64) 0, (Value.int .i64) 0, (Value.int .i64) 0, (Value.int .i64) 0, (Value.int .i64) 0, (Value.int .i64) 0, Value.bool false] 106 * (blk X #[(Value.int .i64) m.page, (Value.int .i64) m.size, (Value.int .i64) m.frame, (Value.int .i64) m.rights] 31 * (wkBlk b root c.idle w e * R))) := h7.eq (by ac_rfl)
    have hfin := (((((((((h9.set 0 (Value.bool true)).set 1 ((Value.int .i64) an.fin)).set 2 ((Value.int .i64) an.frame)).set 3 ((Value.int .i64) an.rights)).set 4 ((Value.int .i64) m.page)).set 5 ((Value.int .i64) m.size)).set 6 ((Value.int .i64) m.frame)).set 7 ((Value.int .i64) m.rights)).set 8 (Value.bool md))
    have hfinX : Has _ (blk X #[(Value.int .i64) m.page, (Value.int .i64) m.size, (Value.int .i64) m.frame, (Value.int .i64) m.rights] 31 * _) := (((((((((h9x.set 0 (Value.bool true)).set 1 ((Value.int .i64) an.fin)).set 2 ((Value.int .i64) an.frame)).set 3 ((Value.int .i64) an.rights)).set 4 ((Value.int .i64) m.page)).set 5 ((Value.int .i64) m.size)).set 6 ((Value.int .i64) m.frame)).set 7 ((Value.int .i64) m.rights)).set 8 (Value.bool md)).p2
    refine anyL_ready (rs := [13]) (by kernel_rfl) (by simp) ?_
    refine OneOf.cons rfl (fun K hK => ?_) OneOf.nil
    go_simp
    refine hK.out _ _ ⟨HKX.out _ _ hfinX, ⟨fun _ => by kernel_rfl, fun h => till_gone (by kernel_rfl) h⟩⟩ (fun hHeld => ?_)
    clear hK K
    refine anyL_done (by kernel_rfl) ?_
    clear hHeld hfinX
    go_wp2_with fail
    refine ret_via (fun wz => Has wz (blk X1 #[Value.bool true, (Value.int .i64) an.fin, (Value.int .i64) an.frame, (Value.int .i64) an.rights, (Value.int .i64) m.page, (Value.int .i64) m.size, (Value.int .i64) m.frame, (Value.int .i64) m.rights, Value.bool md] 106 * (wkBlk b root c.idle w e * (blk X #[(Value.int .i64) m.page, (Value.int .i64) m.size, (Value.int .i64) m.frame, (Value.int .i64) m.rights] 31 * R))) ∧ Ext W wz) ⟨hfin, by (repeat (first | with_reducible assumption | with_reducible exact Ext.refl _ | with_reducible refine Ext.set ?_ _ _ | with_reducible refine Ext.alloc ?_ _ | with_reducible refine Ext.drew ?_ | with_reducible refine Ext.drewN ?_ _ | assumption | exact Ext.refl _ | refine Ext.alloc ?_ _ | refine Ext.set ?_ _ _ | refine Ext.drew ?_ | refine Ext.drewN ?_ _ | refine Ext.below ?_ (by assumption) | refine Ext.trans ?_ (by assumption)))⟩ ?_
    rintro wz ⟨hz, xz⟩
    exact bodyPost_ret (results_c Try.results77 rfl (load_result hz)) rfl ⟨rfl, hz.right.p2.right, xz⟩
theorem doneW (b : Nat) (root : Int) (c : Ck) (w : Int) (e : En) (R : HProp) (W : World) (h : Has W (wkBlk b root c w e * R)) :
    Calls Try.prog 77 #[.pointer (some ⟨b, 0, none⟩)] W (Res (RsV ⟨true, answer (leafMap e c.level c.a.page) c.a, ⟨leafMap e c.level c.a.page, (markE e c.a).dirty⟩⟩) (wkBlk b root c.idle w e * R) W) :=
  doneW' b root c w e _ _ _ (Lib.hid rfl) (Lib.hid rfl) (Lib.hid rfl) R W h
end Go.Proofs.Ytmfheghbgihdmaa
