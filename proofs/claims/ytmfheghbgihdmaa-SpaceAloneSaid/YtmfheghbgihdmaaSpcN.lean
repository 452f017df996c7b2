/- Contract of package space: New. -/
import Derived.Test.YtmfheghbgihdmaaCoreP3
import Derived.Test.YtmfheghbgihdmaaFrames2
import Derived.Test.YtmfheghbgihdmaaTblM5
import Derived.Test.YtmfheghbgihdmaaInsM2
import Derived.Deep.RegionHeld3
import Derived.Deep.DeepCutAuto
import Derived.Deep.CutBlock
import Derived.BigQuiet
namespace Go.Proofs.Ytmfheghbgihdmaa
open Go.RowKit
set_option maxRecDepth 100000
section
variable {P : Program} {fn : Func} {tmps : Array Value} {w : World}
/-- Two results: the second in cells. -/
theorem results_tc {a b : Nat} {t : TypeId} {p : Addr} {v u : Value} (hr : fn.results = #[.tmp b, .cell a t]) (ha : tmps.getD a undef = .pointer (some p)) (hb : tmps.getD b undef = u) (hl : (loadVar t p).run P w = .ok v w) :
    (results fn tmps).run P w = .ok (.tuple #[u, v]) w := by
  unfold results
  rw [hr]
  simp only [Array.getD_eq_getD_getElem?] at ha hb
  simp [asAddr, ha, hb, hl]
end
theorem one_ptr (q : Nat) : ∀ u ∈ ([.pointer (some ⟨q, 0, none⟩)] : List Value), u.oneCell' = true := by
  intro u hu
  simp at hu
  subst hu
  rfl
theorem Has.frees2 {w : World} {R : HProp} {b : Nat} {v0 v1 : Value} {t : TypeId} (h : Has w (blk b #[v0, v1] t * R)) : w.frozen? ⟨b, 0, none⟩ = false ∧ w.frozen? ⟨b, 1, none⟩ = false := ⟨h.free 0, h.free 1⟩
theorem Has.set2 {w : World} {R : HProp} {b : Nat} {v0 v1 : Value} {t : TypeId} (h : Has w (blk b #[v0, v1] t * R)) (u0 u1 : Value) : Has ((w.setCell ⟨b, 0, none⟩ u0).setCell ⟨b, 1, none⟩ u1) (blk b #[u0, u1] t * R) := (h.set 0 u0).set 1 u1
theorem newS_no (cores n : Int) (hc : cores < 1 ∨ 4 < cores ∨ n < 1 ∨ 128 < n) (w : World) :
    Calls Try.prog 7 #[(Value.int .i64) cores, (Value.int .i64) n] w (Pure (.tuple #[.pointer none, .agg #[(Value.int .i64) 1, (Value.int .i64) (-1)]]) w) := by
  have h0 := (has_old w).new #[(Value.int .i64) 0, (Value.int .i64) 0] 27
  have x0 := (Ext.refl w).alloc (.cells #[(Value.int .i64) 0, (Value.int .i64) 0] 27)
  have h1 := (has_old w).new #[(Value.int .i64) 1, (Value.int .i64) (-1)] 27
  have el := h0.lt
  obtain ⟨c0, c1⟩ := h0.cells2
  obtain ⟨f0, f1⟩ := h0.frees2
  by_cases q1 : cores < 1
  · go_enter Try.func7, Try.ntmps7
    go_wp2_with fail
    refine ret_via (fun wz => Has wz (blk w.heap.size #[(Value.int .i64) 1, (Value.int .i64) (-1)] 27 * (old w w.heap.size)) ∧ Ext w wz) ⟨by first | (with_reducible exact h1) | (with_reducible exact h0.set2 ((Value.int .i64) 1) ((Value.int .i64) (-1))), by (repeat (first | with_reducible assumption | with_reducible exact Ext.refl _ | with_reducible refine Ext.set ?_ _ _ | with_reducible refine Ext.alloc ?_ _ | with_reducible refine Ext.drew ?_ | with_reducible refine Ext.drewN ?_ _ | assumption | exact Ext.refl _ | refine Ext.alloc ?_ _ | refine Ext.set ?_ _ _ | refine Ext.drew ?_ | refine Ext.drewN ?_ _ | refine Ext.below ?_ (by assumption) | refine Ext.trans ?_ (by assumption)))⟩ ?_
    rintro wz ⟨hz, xz⟩
    exact bodyPost_ret (results_tc Try.results7 rfl rfl (load_fault hz)) rfl ⟨rfl, below_of1 hz.right xz⟩
  by_cases q2 : 4 < cores
  · go_enter Try.func7, Try.ntmps7
    go_wp2_with fail
    refine ret_via (fun wz => Has wz (blk w.heap.size #[(Value.int .i64) 1, (Value.int .i64) (-1)] 27 * (old w w.heap.size)) ∧ Ext w wz) ⟨by first | (with_reducible exact h1) | (with_reducible exact h0.set2 ((Value.int .i64) 1) ((Value.int .i64) (-1))), by (repeat (first | with_reducible assumption | with_reducible exact Ext.refl _ | with_reducible refine Ext.set ?_ _ _ | with_reducible refine Ext.alloc ?_ _ | with_reducible refine Ext.drew ?_ | with_reducible refine Ext.drewN ?_ _ | assumption | exact Ext.refl _ | refine Ext.alloc ?_ _ | refine Ext.set ?_ _ _ | refine Ext.drew ?_ | refine Ext.drewN ?_ _ | refine Ext.below ?_ (by assumption) | refine Ext.trans ?_ (by assumption)))⟩ ?_
    rintro wz ⟨hz, xz⟩
    exact bodyPost_ret (results_tc Try.results7 rfl rfl (load_fault hz)) rfl ⟨rfl, below_of1 hz.right xz⟩
  by_cases q3 : n < 1
  · go_enter Try.func7, Try.ntmps7
    go_wp2_with fail
    refine ret_via (fun wz => Has wz (blk w.heap.size #[(Value.int .i64) 1, (Value.int .i64) (-1)] 27 * (old w w.heap.size)) ∧ Ext w wz) ⟨by first | (with_reducible exact h1) | (with_reducible exact h0.set2 ((Value.int .i64) 1) ((Value.int .i64) (-1))), by (repeat (first | with_reducible assumption | with_reducible exact Ext.refl _ | with_reducible refine Ext.set ?_ _ _ | with_reducible refine Ext.alloc ?_ _ | with_reducible refine Ext.drew ?_ | with_reducible refine Ext.drewN ?_ _ | assumption | exact Ext.refl _ | refine Ext.alloc ?_ _ | refine Ext.set ?_ _ _ | refine Ext.drew ?_ | refine Ext.drewN ?_ _ | refine Ext.below ?_ (by assumption) | refine Ext.trans ?_ (by assumption)))⟩ ?_
    rintro wz ⟨hz, xz⟩
    exact bodyPost_ret (results_tc Try.results7 rfl rfl (load_fault hz)) rfl ⟨rfl, below_of1 hz.right xz⟩
  · have q4 : 128 < n := by omega
    go_enter Try.func7, Try.ntmps7
    go_wp2_with fail
    refine (new_no n _ (by omega)).mono ?_; rintro e w2 ⟨rfl, b2⟩
    have h2 := h0.below b2
    have x2 := x0.below b2
    clear h0 x0 h1 c0 c1 f0 f1 el b2
    have x3 := x2.alloc (.cells #[(Value.int .i64) 1, (Value.int .i64) (-1)] 27)
    have h3 : Has _ (blk w.heap.size #[(Value.int .i64) 0, (Value.int .i64) 0] 27 * (blk w2.heap.size #[(Value.int .i64) 1, (Value.int .i64) (-1)] 27 * old w w.heap.size)) := (h2.new #[(Value.int .i64) 1, (Value.int .i64) (-1)] 27).eq (by ac_rfl)
    obtain ⟨c0, c1⟩ := h3.cells2
    obtain ⟨f0, f1⟩ := h3.frees2
    have el := h3.lt
    obtain ⟨d0, d1⟩ := h3.right.cells2
    have dl := h3.right.lt
    clear h2
    go_upto_region 4 with fail
    go_wp2_with fail
    go_region
    all_goals
      go_wp2_with fail
      refine ret_via (fun wz => Has wz (blk w.heap.size #[(Value.int .i64) 1, (Value.int .i64) (-1)] 27 * (blk w2.heap.size #[(Value.int .i64) 1, (Value.int .i64) (-1)] 27 * old w w.heap.size)) ∧ Ext w wz) ⟨by first | (with_reducible exact h3) | (with_reducible exact (h3.set2 ((Value.int .i64) 1) ((Value.int .i64) (-1))).drew), by (repeat (first | with_reducible assumption | with_reducible exact Ext.refl _ | with_reducible refine Ext.set ?_ _ _ | with_reducible refine Ext.alloc ?_ _ | with_reducible refine Ext.drew ?_ | with_reducible refine Ext.drewN ?_ _ | assumption | exact Ext.refl _ | refine Ext.alloc ?_ _ | refine Ext.set ?_ _ _ | refine Ext.drew ?_ | refine Ext.drewN ?_ _ | refine Ext.below ?_ (by assumption) | refine Ext.trans ?_ (by assumption)))⟩ ?_
      rintro wz ⟨hz, xz⟩
      exact bodyPost_ret (results_tc Try.results7 rfl rfl (load_fault hz)) rfl ⟨rfl, below_of1 hz.right.right xz⟩
set_option maxHeartbeats 4000000 in
theorem newS (cores n : Nat) (hc : 1 ≤ cores) (h4 : cores ≤ 4) (hn : 1 ≤ n) (hn2 : n ≤ 128) (R : HProp) (w : World) (h : Has w R) :
    Calls Try.prog 7 #[(Value.int .i64) cores, (Value.int .i64) n] w fun e w' => ∃ p, Res (.tuple #[.pointer (some ⟨p, 0, none⟩), .agg #[(Value.int .i64) 0, (Value.int .i64) 0]]) (spaceAt p (Sc.new cores n) * R) w e w' := by
  have h0 := h.new #[(Value.int .i64) 0, (Value.int .i64) 0] 27
  have x0 := (Ext.refl w).alloc (.cells #[(Value.int .i64) 0, (Value.int .i64) 0] 27)
  have hn1 : ¬ (n : Int) < 1 := by omega
  have hc1 : ¬ (cores : Int) < 1 := by omega
  have hc4 : ¬ (4 : Int) < cores := by omega
  have ht0 : (Ms.new n).topV = 0 := by
    have ht : (Ms.new n).top = some 0 := by
      show (if 0 < n then some 0 else none) = some 0
      rw [if_pos (by omega)]
    unfold Ms.topV
    rw [ht]
    rfl
  have HTK := Lib.hid (fun f R w h => takeA f (Ms.new n) R w h)
  rw [ht0] at HTK
  have HOK := Lib.hid (Ms.Ok.new hn2)
  clear h ht0
  go_enter Try.func7, Try.ntmps7
  go_wp2_with fail
  refine (newF _ _ n h0 (by omega) (by omega)).mono ?_; rintro e w2 ⟨f, rfl, h2, x2⟩
  have h3 := (frA_shut h2 HOK.out (Agree.refl _)).new #[(Value.int .i64) 0, (Value.int .i64) 0] 27
  have h3' : Has _ (frA f (Ms.new n) * (blk w2.heap.size #[(Value.int .i64) 0, (Value.int .i64) 0] 27 * (blk w.heap.size #[(Value.int .i64) 0, (Value.int .i64) 0] 27 * R))) := h3.eq (by ac_rfl)
  have x3 := (x0.trans x2).alloc (.cells #[(Value.int .i64) 0, (Value.int .i64) 0] 27)
  have c3 := h3.cell 0
  clear h2 x2 x0 h0 h3
  go_wp2_with fail
  refine (HTK.out f _ _ h3').mono ?_; rintro e w4 ⟨rfl, h4, x4⟩
  have x5 := x3.trans x4
  clear c3 h3' x3 x4 HTK HOK
  go_wp2_with fail
  refine (new_shoot _ _ h4).mono ?_; rintro e w5 ⟨sh, rfl, h6, x6⟩
  have h7 : Has _ (prow (.slice none 0 0) [] * (blk w5.heap.size #[.pointer (some ⟨f, 0, none⟩), (Value.int .i64) 0, .slice none 0 0, .pointer (some ⟨sh, 0, none⟩), Value.bool false, .slice none 0 0] 63 * (coresAt [] (List.replicate 0 Cr.zero) * (shootAt sh Mp.zero (fun _ => false) * (frA f (Ms.new n).takeS * (blk w2.heap.size #[(Value.int .i64) 0, (Value.int .i64) 0] 27 * (blk w.heap.size #[(Value.int .i64) 0, (Value.int .i64) 0] 27 * R))))))) :=
    Has.rowNil ((has_lift.2 ⟨trivial, h6.new #[.pointer (some ⟨f, 0, none⟩), (Value.int .i64) 0, .slice none 0 0, .pointer (some ⟨sh, 0, none⟩), Value.bool false, .slice none 0 0] 63⟩).eq (show _ = blk w5.heap.size #[.pointer (some ⟨f, 0, none⟩), (Value.int .i64) 0, .slice none 0 0, .pointer (some ⟨sh, 0, none⟩), Value.bool false, .slice none 0 0] 63 * (lift True * (shootAt sh Mp.zero (fun _ => false) * (frA f (Ms.new n).takeS * (blk w2.heap.size #[(Value.int .i64) 0, (Value.int .i64) 0] 27 * (blk w.heap.size #[(Value.int .i64) 0, (Value.int .i64) 0] 27 * R))))) by ac_rfl))
  have x7 := (x5.trans x6).alloc (.cells #[.pointer (some ⟨f, 0, none⟩), (Value.int .i64) 0, .slice none 0 0, .pointer (some ⟨sh, 0, none⟩), Value.bool false, .slice none 0 0] 63)
  clear h4 x5 h6 x6
  go_wp2_with fail
  generalize w5.alloc (.cells #[.pointer (some ⟨f, 0, none⟩), (Value.int .i64) 0, .slice none 0 0, .pointer (some ⟨sh, 0, none⟩), Value.bool false, .slice none 0 0] 63) = w6 at *
  generalize w5.heap.size = b at *
  generalize w.heap.size = X at *
  go_loopw [36] (fun t wz => ∃ (j : Nat) (A : Option Addr) (c : Nat) (ps : List Nat), j ≤ cores ∧ t = (Value.int .i64) j ∧ ps.length = j ∧
      Has wz (prow (.slice A j c) ps * (blk b #[.pointer (some ⟨f, 0, none⟩), (Value.int .i64) 0, .slice A j c, .pointer (some ⟨sh, 0, none⟩), Value.bool false, .slice none 0 0] 63 * (coresAt ps (List.replicate j Cr.zero) * (shootAt sh Mp.zero (fun _ => false) * (frA f (Ms.new n).takeS * (blk w2.heap.size #[(Value.int .i64) 0, (Value.int .i64) 0] 27 * (blk X #[(Value.int .i64) 0, (Value.int .i64) 0] 27 * R))))))) ∧ Ext w wz)
    (fun t _ => cores - (intOf t).toNat)
  case atStart => exact ⟨0, none, 0, [], by omega, rfl, rfl, h7, x7⟩
  case round =>
    obtain ⟨j, A, c, ps, hj, rfl, hps, hz, hx⟩ := hrel
    generalize hZ : (shootAt sh Mp.zero (fun _ => false) * (frA f (Ms.new n).takeS * (blk w2.heap.size #[(Value.int .i64) 0, (Value.int .i64) 0] 27 * (blk X #[(Value.int .i64) 0, (Value.int .i64) 0] 27 * R)))) = Z at *
    clear h7 x7
    subst hps
    by_cases hjn : ps.length < cores
    · have g1 := hz.right.cell 1
      have g2 := hz.right.cell 2
      have gl := hz.right.lt
      have hzd := hz.drew
      have HC := Lib.hid (fun R w h => newC 0 R w h)
      go_wp2_with fail
      go_region_law (first
        | (go_simp; go_at_call 20; refine (HC.out _ _ hzd).mono ?_; rintro e w8 ⟨q, rfl, h8, x8⟩; have k1 := h8.right.right.cell 1; have k2 := h8.right.right.cell 2; have kl := h8.right.right.lt; have k3 := (h8.eq (show _ = prow (.slice A ps.length c) ps * (blk b #[.pointer (some ⟨f, 0, none⟩), (Value.int .i64) 0, .slice A ps.length c, .pointer (some ⟨sh, 0, none⟩), Value.bool false, .slice none 0 0] 63 * (pcAt q [] 0 Ck.zero * (coresAt ps (List.replicate ps.length Cr.zero) * Z))) by ac_rfl)).build #[.pointer (some ⟨q, 0, none⟩)] 64)
        | (refine step_append_has rfl (.tmp 42) (.tmp 48) 61 rfl Try.underlying61 elemPC (.slice A ps.length c) ps.length (ps.map ptr) (by simp [Act.eval]) k3 ⟨w8.heap.size, 0, none⟩ 1 1 [.pointer (some ⟨q, 0, none⟩)] (by simp [Act.eval]) rfl (news_cell (k3.right.right.cell 0)) (one_ptr q) (by unfold maxLen; omega) (by omega) ?_; intro A' c' w9 h9 x9; have y2 := h9.right.cell 2; have yf := h9.right.free 2; have yl := h9.right.lt))
      all_goals
        have h10 : Has (w9.setCell ⟨b, 2, none⟩ (.slice A' (ps.length + 1) c')) (prow (.slice A' (ps.length + 1) c') (ps ++ [q]) * (blk b #[.pointer (some ⟨f, 0, none⟩), (Value.int .i64) 0, .slice A' (ps.length + 1) c', .pointer (some ⟨sh, 0, none⟩), Value.bool false, .slice none 0 0] 63 * (coresAt (ps ++ [q]) (List.replicate (ps.length + 1) Cr.zero) * Z))) := by
          have h11 := (h9.right.set 2 (.slice A' (ps.length + 1) c'))
          have h12 := (h9.p2.set 2 (.slice A' (ps.length + 1) c'))
          have h13 : Has _ (blk w8.heap.size #[.pointer (some ⟨q, 0, none⟩)] 64 * (row 64 1 (.slice A' (ps.length + 1) c') (ps.length + 1) (ps.map ptr ++ [.pointer (some ⟨q, 0, none⟩)]) * (blk b #[.pointer (some ⟨f, 0, none⟩), (Value.int .i64) 0, .slice A' (ps.length + 1) c', .pointer (some ⟨sh, 0, none⟩), Value.bool false, .slice none 0 0] 63 * (pcAt q [] 0 Ck.zero * (coresAt ps (List.replicate ps.length Cr.zero) * Z))))) := h12.eq (by show blk b #[.pointer (some ⟨f, 0, none⟩), (Value.int .i64) 0, .slice A' (ps.length + 1) c', .pointer (some ⟨sh, 0, none⟩), Value.bool false, .slice none 0 0] 63 * _ = _; ac_rfl)
          have h14 := h13.right
          rw [List.replicate_succ', cores_snoc ps _ q Cr.zero (by simp)]
          unfold prow
          rw [List.length_append, List.map_append]
          exact h14.eq (by ac_rfl)
        have x10 := (((hx.drew.trans x8).alloc (.cells #[.pointer (some ⟨q, 0, none⟩)] 64)).trans x9).set ⟨b, 2, none⟩ (.slice A' (ps.length + 1) c')
        clear h9 h8 k3 hzd hz k1 k2 kl g1 g2 gl y2 yf yl hx x8 x9
        go_wp2_with fail
        go_roundw
        case rel => exact ⟨ps.length + 1, A', c', ps ++ [q], by omega, by go_num, by simp, h10, x10⟩
        case measure => simp [intOf]; omega
    · have hjc : ps.length = cores := by omega
      have h11 : Has _ (blk X #[(Value.int .i64) 0, (Value.int .i64) 0] 27 * (blk b #[.pointer (some ⟨f, 0, none⟩), (Value.int .i64) 0, .slice A ps.length c, .pointer (some ⟨sh, 0, none⟩), Value.bool false, .slice none 0 0] 63 * (blk w2.heap.size #[(Value.int .i64) 0, (Value.int .i64) 0] 27 * (prow (.slice A ps.length c) ps * (coresAt ps (List.replicate ps.length Cr.zero) * (shootAt sh Mp.zero (fun _ => false) * (frA f (Ms.new n).takeS * R))))))) := hz.eq (by rw [← hZ]; ac_rfl)
      have HE := Lib.hid (fun (wz : World) (h : Has wz (blk X #[(Value.int .i64) 0, (Value.int .i64) 0] 27 * (blk b #[.pointer (some ⟨f, 0, none⟩), (Value.int .i64) 0, .slice A ps.length c, .pointer (some ⟨sh, 0, none⟩), Value.bool false, .slice none 0 0] 63 * (blk w2.heap.size #[(Value.int .i64) 0, (Value.int .i64) 0] 27 * (prow (.slice A ps.length c) ps * (coresAt ps (List.replicate ps.length Cr.zero) * (shootAt sh Mp.zero (fun _ => false) * (frA f (Ms.new n).takeS * R)))))))) => show Has wz (spaceAt b (Sc.new cores n) * R) from by
        have k1 : Has wz (blk w2.heap.size #[(Value.int .i64) 0, (Value.int .i64) 0] 27 * (blk b #[.pointer (some ⟨f, 0, none⟩), (Value.int .i64) 0, .slice A ps.length c, .pointer (some ⟨sh, 0, none⟩), Value.bool false, .slice none 0 0] 63 * (prow (.slice A ps.length c) ps * (shootAt sh Mp.zero (fun _ => false) * (coresAt ps (List.replicate ps.length Cr.zero) * (frA f (Ms.new n).takeS * R)))))) := h.right.eq (by ac_rfl)
        have k2 := (Has.rowNil (e := 3) (size := 1) k1.right).eq (show _ = blk b #[.pointer (some ⟨f, 0, none⟩), (Value.int .i64) 0, .slice A ps.length c, .pointer (some ⟨sh, 0, none⟩), Value.bool false, .slice none 0 0] 63 * (prow (.slice A ps.length c) ps * (irow (.slice none 0 0) [] * (shootAt sh Mp.zero (fun _ => false) * (coresAt ps (List.replicate ps.length Cr.zero) * (frA f (Ms.new n).takeS * R))))) by show row 3 1 (.slice none 0 0) 0 [] * _ = _; unfold irow; ac_rfl)
        rw [hjc] at k2
        exact spaceAt_shut (y := ⟨f, sh, A, c, ps, none, 0⟩) (by simpa [Sc.new] using hjc) (by unfold spaceIn Sc.new; rw [← hjc] at k2 ⊢; exact k2))
      clear hjc hZ hz
      obtain ⟨d0, d1⟩ := h11.cells2
      obtain ⟨f0, f1⟩ := h11.frees2
      have dl := h11.lt
      go_wp2_with fail
      refine ret_via (fun wz => Has wz (blk X #[(Value.int .i64) 0, (Value.int .i64) 0] 27 * (blk b #[.pointer (some ⟨f, 0, none⟩), (Value.int .i64) 0, .slice A ps.length c, .pointer (some ⟨sh, 0, none⟩), Value.bool false, .slice none 0 0] 63 * (blk w2.heap.size #[(Value.int .i64) 0, (Value.int .i64) 0] 27 * (prow (.slice A ps.length c) ps * (coresAt ps (List.replicate ps.length Cr.zero) * (shootAt sh Mp.zero (fun _ => false) * (frA f (Ms.new n).takeS * R))))))) ∧ Ext w wz) ⟨by first | (with_reducible exact h11) | (with_reducible exact h11.set2 ((Value.int .i64) 0) ((Value.int .i64) 0)), by (repeat (first | with_reducible assumption | with_reducible exact Ext.refl _ | with_reducible refine Ext.set ?_ _ _ | with_reducible refine Ext.alloc ?_ _ | with_reducible refine Ext.drew ?_ | with_reducible refine Ext.drewN ?_ _ | assumption | exact Ext.refl _ | refine Ext.alloc ?_ _ | refine Ext.set ?_ _ _ | refine Ext.drew ?_ | refine Ext.drewN ?_ _ | refine Ext.below ?_ (by assumption) | refine Ext.trans ?_ (by assumption)))⟩ ?_
      rintro wz ⟨hz, xz⟩
      exact bodyPost_ret (results_tc Try.results7 rfl rfl (load_fault hz)) rfl ⟨b, rfl, HE.out _ hz, xz⟩
end Go.Proofs.Ytmfheghbgihdmaa
namespace Go.Proofs.Ytmfheghbgihdmaa
open Go.RowKit
section
variable {s : Ms} {r : Int} {gone : List Int} {X : Int → Prop}
/-- How a step ends that ends. -/
structure StepEnd (s : Ms) (r : Int) (k : Ck) (p : Sp) : Prop where
  fin : p.r.fin = true
  off : p.c = k.idle
  an : p.r.an = ansM (mapAt s r k.a.page) k.a
  kept : p.r.an.fin = 0 → Kept p.s r p.r.ln ∧ over p.r.ln.m k.a.page = true ∧ (k.a.kind = 1 → p.r.ln.dirty = true)
structure StepOn (s : Ms) (r : Int) (k : Ck) (p : Sp) : Prop where
  z : p.r = Rs.zero
  same : p.s = s
  on : p.c.on = true
  a : p.c.a = k.a
  tree : OnTree s r p.c
structure StepIn (s : Ms) (r : Int) (gone : List Int) (k : Ck) (p : Sp) : Prop where
  code : p.code = 0
  mark : Marked s p.s r
  wf : Wf p.s r gone (fun _ => False)
  inv : p.s.Inv
  fin : StepEnd s r k p ∨ StepOn s r k p
theorem leaf_end {k : Ck} {d : Nat} {s' : Ms} {e' : En} (hp : InP k.a.page) (he : Ends s r k.a.page d k.t) (hlev : k.level = ((3 - d : Nat) : Int)) (hl : (eOf s k.a.page k.t (3 - d)).leaf = true)
    (hwf : Wf s' r gone (fun _ => False)) (hinv : s'.Inv) (hm : Marked s s' r) (hway : (way s' r k.a.page).e = e') (hmp : leafMap e' ((3 - d : Nat) : Int) k.a.page = leafMap (eOf s k.a.page k.t (3 - d)) ((3 - d : Nat) : Int) k.a.page)
    (hready : readyE e' k.a = true) : StepIn s r gone k (k.leafEnd s' e') := by
  have hmap : mapAt s r k.a.page = some (leafMap e' ((3 - d : Nat) : Int) k.a.page) := by
    rw [mapAt_ends hp he, if_pos hl, hmp]
  have hu : e'.used = true ∧ (e'.dirty || k.a.kind != 1) = true := by
    unfold readyE at hready
    rw [Bool.and_eq_true] at hready
    exact hready
  refine ⟨rfl, hm, hwf, hinv, .inl ⟨rfl, rfl, ?_, fun _ => ?_⟩⟩
  · rw [hmap, ← hlev]; rfl
  · have hmap' : mapAt s' r k.a.page = some (leafMap e' ((3 - d : Nat) : Int) k.a.page) := (hm.map _ hp).trans hmap
    obtain ⟨q1, q2, q3⟩ := map_page hwf hp hmap'
    obtain ⟨o1, _⟩ := hwf.self hp hmap'
    have hent := (entry_over hwf hp q1 hmap' q2).1
    have hln : (k.leafEnd s' e').r.ln = ⟨leafMap e' ((3 - d : Nat) : Int) k.a.page, e'.dirty⟩ := by unfold Ck.leafEnd; rw [hlev]
    rw [hln]
    refine ⟨⟨q1, q3, by show (way s' r _).e.used = true; rw [hent, hway]; exact hu.1, fun h => by show (way s' r _).e.dirty = true; rw [hent, hway]; exact h⟩, o1, fun h1 => ?_⟩
    have := hu.2
    rw [h1] at this
    simpa using this
theorem tree_step (hw : Wf s r gone (fun _ => False)) (hi : s.Inv) {k : Ck} (hk : k.Ok) (hon : k.on = true) (ht : OnTree s r k ∨ Lost s r gone k) : StepIn s r gone k (stepC s r k) := by
  have hp := check_inP (hk.acc hon)
  have hag := again_tree s r hon
  have hAgain : StepIn s r gone k ⟨k.again r, s, Rs.zero, 0⟩ := ⟨rfl, Marked.refl s r, hw, hi, .inr ⟨rfl, rfl, hag.2.2, hag.2.1, hag.1⟩⟩
  unfold stepC
  rw [if_neg (by rw [hon]; simp)]
  rcases ht with ⟨d, hd, hlev, htab⟩ | ⟨hg, hnone⟩
  · obtain ⟨u1, u2⟩ := hw.at_ hp hd htab
    rw [if_neg (by rw [u1]; simp)]
    have ew : k.word s = wordV s k.t (index k.a.page (3 - d : Nat)) := by unfold Ck.word; rw [hlev]
    by_cases hmk : k.mark = true ∧ k.word s ≠ k.w
    · rw [if_pos hmk]; exact hAgain
    rw [if_neg hmk, ew, hlev, if_neg (by rw [u2]; simp)]
    have eE : decE (wordV s k.t (index k.a.page (3 - d : Nat))) ((3 - d : Nat) : Int) = eOf s k.a.page k.t (3 - d) := rfl
    rw [eE]
    by_cases hth : (eOf s k.a.page k.t (3 - d)).there = false
    · rw [if_pos hth]
      have hgo : goB s k.a.page k.t (3 - d) = false := by unfold goB; rw [hth]; simp
      have he : Ends s r k.a.page d k.t := ⟨hd, htab, u1, u2, hgo⟩
      have hz := (he.not hth).1
      refine ⟨rfl, Marked.refl s r, hw, hi, .inl ⟨rfl, rfl, ?_, fun h => (by cases h)⟩⟩
      rw [mapAt_ends hp he, hz]
      rfl
    rw [if_neg hth]
    by_cases hlf : (eOf s k.a.page k.t (3 - d)).leaf = false
    · rw [if_pos hlf]
      have hgo : goB s k.a.page k.t (3 - d) = true := goB_iff.2 ⟨u1, u2, by simpa using hth, hlf⟩
      have hd3 : d < 3 := by
        refine Decidable.byContradiction fun hn => ?_
        obtain rfl : d = 3 := by omega
        have u2' : decC (wordV s k.t (index k.a.page (0 : Nat))) (0 : Nat) = 0 := u2
        rcases dec0_leaf u2' with h | h
        · exact hth h
        · have hlf' : (decE (wordV s k.t (index k.a.page (0 : Nat))) (0 : Nat)).leaf = false := hlf
          exact absurd (h.symm.trans hlf') (by simp)
      refine ⟨rfl, Marked.refl s r, hw, hi, .inr ⟨rfl, rfl, hon, rfl, d + 1, by omega, ?_, tabD_succ.2 ⟨k.t, htab, hgo, rfl⟩⟩⟩
      show ((3 - d : Nat) : Int) - 1 = _
      omega
    rw [if_neg hlf]
    have hl : (eOf s k.a.page k.t (3 - d)).leaf = true := by simpa using hlf
    have hgo : goB s k.a.page k.t (3 - d) = false := by unfold goB; rw [hl]; simp
    have he : Ends s r k.a.page d k.t := ⟨hd, htab, u1, u2, hgo⟩
    have hef : entFault (eOf s k.a.page k.t (3 - d)) ((3 - d : Nat) : Int) = 0 := (enc_dec he.dec).1
    have hmap : mapAt s r k.a.page = some (leafMap (eOf s k.a.page k.t (3 - d)) ((3 - d : Nat) : Int) k.a.page) := by rw [mapAt_ends hp he, if_pos hl]
    by_cases hmay : may (eOf s k.a.page k.t (3 - d)).rights k.a = false
    · rw [if_pos hmay]
      refine ⟨rfl, Marked.refl s r, hw, hi, .inl ⟨rfl, rfl, ?_, fun h => (by cases h)⟩⟩
      rw [hmap]
      show _ = answer _ k.a
      unfold answer
      rw [leafMap_rights hef hl (check_has (hk.acc hon)), hmay]
      rfl
    rw [if_neg hmay]
    by_cases hm1 : k.mark = true
    · rw [if_pos hm1]
      obtain ⟨m1, m2, m3, m4⟩ := mark_tree hw hi hp he hl k.a
      exact leaf_end hp he hlev hl m1 m2 m3 m4 (leafMap_mark k.a hef hl) (mark_twice _ _)
    rw [if_neg hm1]
    by_cases hrd : readyE (eOf s k.a.page k.t (3 - d)) k.a = true
    · rw [if_pos hrd]
      exact leaf_end hp he hlev hl hw hi (Marked.refl s r) (by rw [way_ends hp.1 hp.2 he]) rfl hrd
    rw [if_neg hrd]
    exact ⟨rfl, Marked.refl s r, hw, hi, .inr ⟨rfl, rfl, hon, rfl, d, hd, rfl, htab⟩⟩
  · obtain ⟨g0, gz⟩ := hw.gz _ hg
    have htk : s.tk k.t.toNat = true := (hw.use _).2 (.inr (by rw [Int.toNat_of_nonneg g0]; exact hg))
    have hhas : s.has k.t = true := Ms.has_iff.2 ⟨g0, by have := hi.tkl _ htk; have := hi.le; omega, htk⟩
    rw [if_neg (by rw [hhas]; simp)]
    obtain ⟨L, hL, hL3⟩ : ∃ L : Nat, k.level = L ∧ L ≤ 3 := ⟨k.level.toNat, by have := hk.l0 hon; omega, by have := hk.l3 hon; omega⟩
    have hix := index_range hp hL3
    have ew : k.word s = 0 := by
      unfold Ck.word
      rw [hL]
      have := gz (index k.a.page L).toNat (by omega)
      rwa [Int.toNat_of_nonneg hix.1] at this
    obtain ⟨z1, z2⟩ := dec_zero hL3
    by_cases hm : k.mark = true
    · have hne : k.word s ≠ k.w := by
        rw [ew]
        intro h
        have := (hk.leaf hm).1
        rw [← h, hL, z2] at this
        cases this
      rw [if_pos ⟨hm, hne⟩]
      exact hAgain
    · rw [if_neg (fun h => hm h.1), ew, hL, if_neg (by rw [z1]; simp), z2, if_pos (show En.zero.there = false from rfl)]
      refine ⟨rfl, Marked.refl s r, hw, hi, .inl ⟨rfl, rfl, ?_, fun h => (by cases h)⟩⟩
      rw [hnone]
      rfl
end
end Go.Proofs.Ytmfheghbgihdmaa
namespace Go.Proofs.Ytmfheghbgihdmaa
open Go.RowKit
/-- What is kept in a core, and where its walk is. -/
structure CoreIn (σ : Sc) (P : List Mp) (k : Nat) (c : Cr) : Prop where
  walk : c.k.on = true → OnTree σ.s 0 c.k ∨ (σ.wait k = true ∧ Lost σ.s 0 σ.gone c.k)
  line : ∀ x ∈ c.l, Kept σ.s 0 x ∨ (σ.wait k = true ∧ meet x.m σ.told = true ∧ Bk.find P x.m.page = some x.m)
structure Safe (σ : Sc) (P : List Mp) : Prop where
  ok : σ.Ok
  wf : Wf σ.s 0 σ.gone (fun _ => False)
  quiet : σ.busy = false → σ.gone = [] ∧ ∀ i, σ.wait i = false
  busy : σ.busy = true → ∃ i, i < σ.cs.length ∧ σ.wait i = true
  core : ∀ k c, σ.cs[k]? = some c → CoreIn σ P k c
  prev : Bk.Ok P
namespace Safe
variable {σ : Sc} {P : List Mp}
theorem at_core {σ : Sc} {k : Nat} (hk : k < σ.cs.length) : σ.cs[k]? = some (σ.core k) := by
  unfold Sc.core
  rw [List.getD_eq_getElem?_getD, List.getElem?_eq_getElem hk]
  rfl
theorem set_core {cs : List Cr} {k j : Nat} {c x : Cr} (h : (cs.set k c)[j]? = some x) : (j = k ∧ x = c) ∨ (j ≠ k ∧ cs[j]? = some x) := by
  rw [List.getElem?_set] at h
  split at h
  · rename_i hkj
    subst hkj
    split at h
    · injection h with h; exact .inl ⟨rfl, h.symm⟩
    · cases h
  · rename_i hkj
    exact .inr ⟨fun e => hkj e.symm, h⟩
theorem evict (h : Safe σ P) {k : Nat} (hk : k < σ.cs.length) : Safe (σ.evict k).1 P := by
  unfold Sc.evict
  split
  · exact h
  · have hc := Sc.core_ok h.ok k
    have hi := h.core k _ (at_core hk)
    refine ⟨h.ok.put k hc.1.evict hc.2, h.wf, h.quiet, fun hb => by have := h.busy hb; rwa [Sc.put_len], fun j c hj => ?_, h.prev⟩
    rcases set_core hj with ⟨rfl, rfl⟩ | ⟨hne, hj⟩
    · exact ⟨hi.walk, fun x hx => hi.line x (List.mem_of_mem_tail hx)⟩
    · exact ⟨(h.core j c hj).walk, (h.core j c hj).line⟩
theorem begin_tree (s : Ms) (k : Ck) (a : Ac) : OnTree s 0 (k.begin 0 a) := ⟨0, by omega, rfl, rfl⟩
theorem access (h : Safe σ P) {k : Nat} (hk : k < σ.cs.length) (a : Ac) : Safe (σ.access k a).1 P := by
  have hc := Sc.core_ok h.ok k
  have hi := h.core k _ (at_core hk)
  refine ⟨h.ok.put k hc.1 (coreB_ok hc.2), h.wf, h.quiet, fun hb => by have := h.busy hb; unfold Sc.access; rwa [Sc.put_len], fun j c hj => ?_, h.prev⟩
  rcases set_core hj with ⟨rfl, rfl⟩ | ⟨hne, hj⟩
  · refine ⟨fun hon => ?_, hi.line⟩
    show OnTree σ.s 0 (coreB _ 0 _ a).c ∨ _
    unfold coreB at hon ⊢
    split; · rename_i hx; rw [if_pos hx] at hon; exact hi.walk hon
    rename_i hx
    rw [if_neg hx] at hon
    split; · rename_i hy; rw [if_pos hy] at hon; exact hi.walk hon
    rename_i hy
    rw [if_neg hy] at hon
    cases hh : hitA (σ.core j).l a with
    | some r => rw [hh] at hon; exact hi.walk hon
    | none => exact .inl (begin_tree _ _ _)
  · exact ⟨(h.core j c hj).walk, (h.core j c hj).line⟩
theorem keep_mem {l : List Ln} {r : Rs} {x : Ln} (h : x ∈ keepL l r) : x ∈ l ∨ (r.fin = true ∧ r.an.fin = 0 ∧ x = r.ln) := by
  unfold keepL at h
  split at h
  · rename_i hr
    unfold Tl.put at h
    split at h
    · rw [List.mem_append] at h
      rcases h with h | h
      · exact .inl ((List.mem_filter.1 ((Tl.room_sub _).subset h)).1)
      · simp at h
        exact .inr ⟨hr.1, hr.2, h⟩
    · exact .inl h
  · exact .inl h
theorem step_off {s : Ms} {r : Int} {k : Ck} (h : k.on = false) : stepC s r k = ⟨k, s, Rs.zero, 9⟩ := by unfold stepC; rw [if_pos h]
theorem keep_zero (l : List Ln) : keepL l Rs.zero = l := by unfold keepL; rw [if_neg (by simp [Rs.zero])]
theorem walk_stepIn (h : Safe σ P) {k : Nat} (hk : k < σ.cs.length) (hon : (σ.core k).k.on = true) : StepIn σ.s 0 σ.gone (σ.core k).k (stepC σ.s 0 (σ.core k).k) := by
  have hc := Sc.core_ok h.ok k
  exact tree_step h.wf h.ok.s.inv hc.2 hon (((h.core k _ (at_core hk)).walk hon).imp id (fun x => x.2))
theorem walk (h : Safe σ P) {k : Nat} (hk : k < σ.cs.length) : Safe (σ.walk k).1 P := by
  have hc := Sc.core_ok h.ok k
  have hi := h.core k _ (at_core hk)
  cases hon : (σ.core k).k.on with
  | false =>
    unfold Sc.walk
    rw [step_off hon, keep_zero]
    refine ⟨⟨h.ok.s, (h.ok.put k hc.1 hc.2).c, (h.ok.put k hc.1 hc.2).few, (h.ok.put k hc.1 hc.2).one, (h.ok.put k hc.1 hc.2).w, h.ok.told⟩, h.wf, h.quiet, fun hb => by have := h.busy hb; rwa [show ({ σ.put k ⟨(σ.core k).l, (σ.core k).k⟩ with s := σ.s } : Sc).cs.length = σ.cs.length from Sc.put_len _ _ _], fun j c hj => ?_, h.prev⟩
    rcases set_core hj with ⟨rfl, rfl⟩ | ⟨hne, hj⟩
    · exact ⟨hi.walk, hi.line⟩
    · exact ⟨(h.core j c hj).walk, (h.core j c hj).line⟩
  | true =>
    have hs := h.walk_stepIn hk hon
    have hpu := h.ok.put k (c := ⟨keepL (σ.core k).l (stepC σ.s 0 (σ.core k).k).r, (stepC σ.s 0 (σ.core k).k).c⟩) (keepL_ok hc.1 _) (hc.2.step _ _)
    refine ⟨⟨⟨hs.inv, by rw [show (σ.walk k).1.s.n = σ.s.n from hs.mark.n]; exact h.ok.s.small⟩, hpu.c, hpu.few, hpu.one, hpu.w, h.ok.told⟩, hs.wf, h.quiet, fun hb => ?_, fun j c hj => ?_, h.prev⟩
    · have := h.busy hb
      rwa [show (σ.walk k).1.cs.length = σ.cs.length from Sc.put_len _ _ _]
    · rcases set_core hj with ⟨rfl, rfl⟩ | ⟨hne, hj⟩
      · refine ⟨fun hon' => ?_, fun x hx => ?_⟩
        · rcases hs.fin with hf | hf
          · have : ((σ.core j).k.idle).on = true := by rw [← hf.off]; exact hon'
            cases this
          · left
            show OnTree (stepC σ.s 0 (σ.core j).k).s 0 _
            rw [hf.same]
            exact hf.tree
        · rcases keep_mem hx with hx | ⟨h1, h2, h3⟩
          · rcases hi.line x hx with hl | hl
            · exact .inl (hl.mark hs.mark)
            · exact .inr hl
          · rcases hs.fin with hf | hf
            · rw [h3]; exact .inl (hf.kept h2).1
            · rw [hf.z] at h1; cases h1
      · have hj' := h.core j c hj
        refine ⟨fun hon' => ?_, fun x hx => ?_⟩
        · have hp := check_inP ((h.ok.c c (List.mem_of_getElem? hj)).2.acc hon')
          rcases hj'.walk hon' with hl | hl
          · exact .inl (hl.mark hp hs.mark)
          · exact .inr ⟨hl.1, hl.2.mark hp hs.mark⟩
        · rcases hj'.line x hx with hl | hl
          · exact .inl (hl.mark hs.mark)
          · exact .inr hl
theorem overB_false {ws : Nat → Bool} (h : overB ws = false) : ∃ i, i < 4 ∧ ws i = true := by
  unfold overB at h
  cases h0 : ws 0 with
  | true => exact ⟨0, by omega, h0⟩
  | false =>
    cases h1 : ws 1 with
    | true => exact ⟨1, by omega, h1⟩
    | false =>
      cases h2 : ws 2 with
      | true => exact ⟨2, by omega, h2⟩
      | false =>
        cases h3 : ws 3 with
        | true => exact ⟨3, by omega, h3⟩
        | false => rw [h0, h1, h2, h3] at h; cases h
theorem ack_off (ws : Nat → Bool) (k : Nat) : ackW ws k k = false := by unfold ackW; rw [if_pos rfl]
theorem ack_ne (ws : Nat → Bool) {k j : Nat} (h : j ≠ k) : ackW ws k j = ws j := by unfold ackW; rw [if_neg h]
/-- A core looks after what it was told: all holds but who waits. -/
theorem heed_core (h : Safe σ P) {k : Nat} (hk : k < σ.cs.length) : ∀ j c, (σ.heed k).cs[j]? = some c → CoreIn (σ.heed k) P j c := by
  intro j c hj
  have hi := h.core k _ (at_core hk)
  rcases set_core hj with ⟨rfl, rfl⟩ | ⟨hne, hj⟩
  · refine ⟨fun hon => .inl ?_, fun x hx => .inl ?_⟩
    · have hon' : (σ.core j).k.on = true := by
        unfold Ck.again at hon
        split at hon
        · assumption
        · exact hon
      exact (again_tree σ.s 0 hon').1
    · rcases hi.line x ((List.mem_filter.1 hx).1) with hl | hl
      · exact hl
      · have := Tl.drop_apart _ _ x hx
        rw [hl.2.1] at this; cases this
  · have hj' := h.core j c hj
    refine ⟨fun hon => (hj'.walk hon).imp id fun hl => ⟨(ack_ne _ hne).trans hl.1, hl.2⟩, fun x hx => (hj'.line x hx).imp id fun hl => ⟨(ack_ne _ hne).trans hl.1, hl.2⟩⟩
theorem heed_ok (h : Safe σ P) (k : Nat) : (σ.heed k).Ok := by
  have hc := Sc.core_ok h.ok k
  have hp := h.ok.put k (c := ⟨Tl.drop (σ.core k).l σ.told, (σ.core k).k.again 0⟩) (hc.1.drop _) (hc.2.again 0)
  refine ⟨h.ok.s, hp.c, hp.few, hp.one, fun i hi => ?_, h.ok.told⟩
  have := h.ok.w i (by have e : (σ.heed k).cs.length = σ.cs.length := List.length_set ..; omega)
  show ackW σ.wait k i = false
  unfold ackW
  split
  · rfl
  · exact this
theorem ack (h : Safe σ P) {k : Nat} (hk : k < σ.cs.length) : Safe (σ.ack k).1 P := by
  unfold Sc.ack
  split
  · exact h
  rename_i hwk
  have hwk : σ.wait k = true := by simpa using hwk
  have hb : σ.busy = true := by
    cases hb : σ.busy with
    | true => rfl
    | false => rw [(h.quiet hb).2 k] at hwk; cases hwk
  have hlen : (σ.heed k).cs.length = σ.cs.length := List.length_set ..
  have hok := h.heed_ok k
  have hcore := h.heed_core hk
  split
  · rename_i ho
    have hz : ∀ i, (σ.heed k).wait i = false := by
      intro i
      obtain ⟨a0, a1, a2, a3⟩ := overB_all ho
      by_cases hi : i < 4
      · match i, hi with
        | 0, _ => exact a0
        | 1, _ => exact a1
        | 2, _ => exact a2
        | 3, _ => exact a3
      · exact hok.w i (by have := hok.few; omega)
    have hwf : Wf (giveL σ.s σ.gone) 0 [] (fun _ => False) := h.wf.give h.ok.s.inv
    obtain ⟨g1, g2, _⟩ := giveL_use σ.gone σ.s h.ok.s.inv
    refine ⟨⟨⟨g1, by show (giveL σ.s σ.gone).n ≤ 128; rw [g2]; exact h.ok.s.small⟩, hok.c, hok.few, hok.one, hok.w, hok.told⟩, hwf, fun _ => ⟨rfl, hz⟩, fun hx => (by cases hx), fun j c hj => ?_, h.prev⟩
    have hj' := hcore j c hj
    refine ⟨fun hon => ?_, fun x hx => ?_⟩
    · rcases hj'.walk hon with hl | hl
      · obtain ⟨d, hd, hlv, ht⟩ := hl
        have hp := check_inP ((hok.c c (List.mem_of_getElem? hj)).2.acc hon)
        exact .inl ⟨d, hd, hlv, (give_tab h.wf h.ok.s.inv hp d (by omega)).trans ht⟩
      · rw [hz j] at hl; cases hl.1
    · rcases hj'.line x hx with hl | hl
      · have e := give_way h.wf h.ok.s.inv hl.inP
        exact .inl ⟨hl.inP, (mapAt_way e).trans hl.map, by show (way (giveL σ.s σ.gone) 0 _).e.used = true; rw [e]; exact hl.used, fun hd => by show (way (giveL σ.s σ.gone) 0 _).e.dirty = true; rw [e]; exact hl.dirty hd⟩
      · rw [hz j] at hl; cases hl.1
  · rename_i ho
    refine ⟨hok, h.wf, fun hx => (by rw [show (σ.heed k).busy = σ.busy from rfl, hb] at hx; cases hx), fun _ => ?_, hcore, h.prev⟩
    obtain ⟨i, _, hi⟩ := overB_false (by simpa using ho)
    refine ⟨i, ?_, hi⟩
    refine Decidable.byContradiction fun hn => ?_
    have hn : ¬ i < (σ.heed k).cs.length := hn
    rw [hok.w i (by omega)] at hi; cases hi
theorem lk (h : Safe σ P) : Lk σ.s 0 (allM σ.s 0) := (list_link h.wf).2.1
theorem findM_ok {s : Ms} {g : List Int} {X : Int → Prop} (hw : Wf s 0 g X) {p : Int} (hf : findC s 0 p = 0) : mapAt s 0 p = some (findM s 0 p) ∧ MapOk (findM s 0 p) ∧ InP p := by
  obtain ⟨d, t, he, hl, hwe, hm, h3, ho⟩ := hw.found hf
  exact ⟨hm, (hw.self (find_zero hf) hm).2, find_zero hf⟩
theorem mapOk_ok {m : Mp} (h : MapOk m) : m.ok := by
  have := h.p0; have := h.p1; have := h.sp; have := h.f0; have := h.f1; have := h.r0; have := h.r7
  refine ⟨?_, ?_, ?_, ?_⟩ <;> unfold i64
  · omega
  · rcases h.size with ⟨a, _⟩ | ⟨a, _⟩ | ⟨a, _⟩ <;> omega
  · omega
  · omega
/-- A line of what is not mapped there any longer. -/
theorem stale {P : List Mp} {s : Ms} {x : Ln} {m : Mp} (hL : Lk s 0 P) (hk : Kept s 0 x) (ho : over m x.m.page = true) : meet x.m m = true ∧ Bk.find P x.m.page = some x.m :=
  ⟨by unfold meet; rw [ho]; simp, (hL.same _ hk.inP).trans hk.map⟩
/-- What P is behind a step. -/
def prevOf (σ : Sc) (P : List Mp) (x : Stp) : List Mp := if σ.busy = false ∧ (x.kind = 2 ∨ x.kind = 3) ∧ (σ.change x).2.code = 0 then allM σ.s 0 else P
theorem post_wait {n i : Nat} (h : i < n) : postW n i = true := by unfold postW; simp [h]
theorem change (h : Safe σ P) (x : Stp) (hx : 1 ≤ x.kind ∧ x.kind ≤ 3) : Safe (σ.change x).1 (prevOf σ P x) := by
  cases hb : σ.busy with
  | true =>
    have e1 : (σ.change x).1 = σ := by unfold Sc.change; rw [if_pos hb]
    have e2 : prevOf σ P x = P := by unfold prevOf; rw [if_neg (by rw [hb]; simp)]
    rw [e1, e2]; exact h
  | false =>
    obtain ⟨hg, hwt⟩ := h.quiet hb
    have hwf := h.wf
    rw [hg] at hwf
    have hL := h.lk
    have hLok : Bk.Ok (allM σ.s 0) := hL.ok
    have hfew := h.ok.few
    have hone := h.ok.one
    by_cases h1 : x.kind = 1
    · have e1 : (σ.change x).1 = { σ with s := insS σ.s 0 x.m } := by unfold Sc.change; rw [if_neg (by rw [hb]; simp), if_pos h1]
      have e2 : prevOf σ P x = P := by unfold prevOf; rw [if_neg (by omega)]
      rw [e1, e2]
      obtain ⟨w1, w2, w3, w4⟩ := ins_ok hwf h.ok.s.inv h.ok.s.small x.m
      refine ⟨⟨⟨w2, by show (insS σ.s 0 x.m).n ≤ 128; rw [w3]; exact h.ok.s.small⟩, h.ok.c, h.ok.few, h.ok.one, h.ok.w, h.ok.told⟩, by show Wf (insS σ.s 0 x.m) 0 σ.gone _; rw [hg]; exact w1, fun _ => ⟨hg, hwt⟩, fun hbb => (by rw [show ({ σ with s := insS σ.s 0 x.m } : Sc).busy = σ.busy from rfl, hb] at hbb; cases hbb), fun j c hj => ?_, h.prev⟩
      have hj' := h.core j c hj
      refine ⟨fun hon => ?_, fun y hy => ?_⟩
      · have hp := check_inP ((h.ok.c c (List.mem_of_getElem? hj)).2.acc hon)
        rcases hj'.walk hon with ⟨d, hd, hlv, ht⟩ | hl
        · exact .inl ⟨d, hd, hlv, ins_walk hwf h.ok.s.inv h.ok.s.small x.m hp hd ht⟩
        · rw [hwt j] at hl; cases hl.1
      · rcases hj'.line y hy with hl | hl
        · have e := (w4 _ hl.inP).2.1 (by rw [hl.map]; simp)
          exact .inl ⟨hl.inP, (mapAt_way e).trans hl.map, by show (way (insS σ.s 0 x.m) 0 _).e.used = true; rw [e]; exact hl.used, fun hd => by show (way (insS σ.s 0 x.m) 0 _).e.dirty = true; rw [e]; exact hl.dirty hd⟩
        · rw [hwt j] at hl; cases hl.1
    by_cases h2 : x.kind = 2
    · by_cases hf : findC σ.s 0 x.m.page = 0
      · have e0 : σ.change x = (σ.post (remS σ.s 0 x.m.page) (findM σ.s 0 x.m.page) (remG σ.s 0 x.m.page), .no 0) := by unfold Sc.change; rw [if_neg (by rw [hb]; simp), if_neg h1, if_pos h2, if_pos hf]
        have e2 : prevOf σ P x = allM σ.s 0 := by unfold prevOf; rw [if_pos ⟨hb, .inl h2, by rw [e0]; rfl⟩]
        rw [e0, e2]
        obtain ⟨w1, w2, w3, w4, w5, w6⟩ := rem_ok hwf h.ok.s.inv hf
        have hgn : (remG σ.s 0 x.m.page).Nodup := by
          have := w1.nd
          rw [List.append_nil] at this
          exact (List.pairwise_reverse.1 this).imp fun h => h.symm
        have hw' : Wf (remS σ.s 0 x.m.page) 0 (remG σ.s 0 x.m.page) (fun _ => False) := w1.perm (fun t => by simp) hgn
        obtain ⟨f1, f2, f3⟩ := findM_ok hwf hf
        refine ⟨⟨⟨w2, by show (remS σ.s 0 x.m.page).n ≤ 128; rw [w3]; exact h.ok.s.small⟩, h.ok.c, hfew, hone, fun i hi => ?_, mapOk_ok f2⟩, hw', fun hbb => (by cases hbb), fun _ => ⟨0, hone, post_wait hone⟩, fun j c hj => ?_, hLok⟩
        · show postW σ.cs.length i = false
          have hi : σ.cs.length ≤ i := hi
          unfold postW; simp; omega
        · have hj' := h.core j c hj
          have hjl : j < σ.cs.length := (List.getElem?_eq_some_iff.1 hj).1
          refine ⟨fun hon => ?_, fun y hy => ?_⟩
          · have hp := check_inP ((h.ok.c c (List.mem_of_getElem? hj)).2.acc hon)
            rcases hj'.walk hon with ⟨d, hd, hlv, ht⟩ | hl
            · rcases rem_walk hwf h.ok.s.inv hf hp hd ht with ht' | ht'
              · exact .inl ⟨d, hd, hlv, ht'⟩
              · exact .inr ⟨post_wait hjl, ht'.1, ht'.2⟩
            · rw [hwt j] at hl; cases hl.1
          · rcases hj'.line y hy with hl | hl
            · by_cases ho : over (findM σ.s 0 x.m.page) y.m.page = true
              · obtain ⟨s1, s2⟩ := stale hL hl ho
                exact .inr ⟨post_wait hjl, s1, s2⟩
              · have e := (w6 _ hl.inP).2 (by simpa using ho) (by rw [hl.map]; simp)
                exact .inl ⟨hl.inP, (mapAt_way e).trans hl.map, by show (way (remS σ.s 0 x.m.page) 0 _).e.used = true; rw [e]; exact hl.used, fun hd => by show (way (remS σ.s 0 x.m.page) 0 _).e.dirty = true; rw [e]; exact hl.dirty hd⟩
            · rw [hwt j] at hl; cases hl.1
      · have e0 : σ.change x = (σ, .no (findC σ.s 0 x.m.page)) := by unfold Sc.change; rw [if_neg (by rw [hb]; simp), if_neg h1, if_pos h2, if_neg hf]
        have e2 : prevOf σ P x = P := by unfold prevOf; rw [if_neg (by rw [e0]; exact fun hh => hf hh.2.2)]
        rw [e0, e2]; exact h
    · have h3 : x.kind = 3 := by omega
      by_cases hf : prC σ.s 0 x.m.page x.m.rights = 0
      · have e0 : σ.change x = (σ.post (prS σ.s 0 x.m.page x.m.rights) (prM σ.s 0 x.m.page x.m.rights) [], .no 0) := by unfold Sc.change; rw [if_neg (by rw [hb]; simp), if_neg h1, if_neg h2, if_pos hf]
        have e2 : prevOf σ P x = allM σ.s 0 := by unfold prevOf; rw [if_pos ⟨hb, .inr h3, by rw [e0]; rfl⟩]
        rw [e0, e2]
        obtain ⟨w1, w2, w3, w4, w5, w6⟩ := pr_ok hwf h.ok.s.inv hf
        have hf0 : findC σ.s 0 x.m.page = 0 := by
          unfold prC at hf
          split at hf
          · cases hf
          · exact hf
        have hr : 0 ≤ x.m.rights ∧ x.m.rights ≤ 7 := by
          unfold prC at hf
          split at hf
          · cases hf
          · omega
        obtain ⟨f1, f2, f3⟩ := findM_ok hwf hf0
        have em : prM σ.s 0 x.m.page x.m.rights = { findM σ.s 0 x.m.page with rights := x.m.rights } := by unfold prM; rw [if_pos hf]
        refine ⟨⟨⟨w2, by show (prS σ.s 0 x.m.page x.m.rights).n ≤ 128; rw [w3]; exact h.ok.s.small⟩, h.ok.c, hfew, hone, fun i hi => ?_, ?_⟩, w1, fun hbb => (by cases hbb), fun _ => ⟨0, hone, post_wait hone⟩, fun j c hj => ?_, hLok⟩
        · show postW σ.cs.length i = false
          have hi : σ.cs.length ≤ i := hi
          unfold postW; simp; omega
        · show (prM σ.s 0 x.m.page x.m.rights).ok
          rw [em]
          have := mapOk_ok f2
          exact ⟨this.1, this.2.1, this.2.2.1, by unfold i64; dsimp only; omega⟩
        · have hj' := h.core j c hj
          have hjl : j < σ.cs.length := (List.getElem?_eq_some_iff.1 hj).1
          refine ⟨fun hon => ?_, fun y hy => ?_⟩
          · have hp := check_inP ((h.ok.c c (List.mem_of_getElem? hj)).2.acc hon)
            rcases hj'.walk hon with ⟨d, hd, hlv, ht⟩ | hl
            · exact .inl ⟨d, hd, hlv, (pr_walk hwf hf hp d (by omega)).trans ht⟩
            · rw [hwt j] at hl; cases hl.1
          · rcases hj'.line y hy with hl | hl
            · by_cases ho : over (findM σ.s 0 x.m.page) y.m.page = true
              · obtain ⟨s1, s2⟩ := stale (m := prM σ.s 0 x.m.page x.m.rights) hL hl (by rw [em]; exact ho)
                exact .inr ⟨post_wait hjl, s1, s2⟩
              · have e := (w6 _ hl.inP).2 (by simpa using ho)
                exact .inl ⟨hl.inP, (mapAt_way e).trans hl.map, by show (way (prS σ.s 0 x.m.page x.m.rights) 0 _).e.used = true; rw [e]; exact hl.used, fun hd => by show (way (prS σ.s 0 x.m.page x.m.rights) 0 _).e.dirty = true; rw [e]; exact hl.dirty hd⟩
            · rw [hwt j] at hl; cases hl.1
      · have e0 : σ.change x = (σ, .no (prC σ.s 0 x.m.page x.m.rights)) := by unfold Sc.change; rw [if_neg (by rw [hb]; simp), if_neg h1, if_neg h2, if_neg hf]
        have e2 : prevOf σ P x = P := by unfold prevOf; rw [if_neg (by rw [e0]; exact fun hh => hf hh.2.2)]
        rw [e0, e2]; exact h
theorem prev_not {x : Stp} (hx : ¬ (1 ≤ x.kind ∧ x.kind ≤ 3)) : prevOf σ P x = P := by unfold prevOf; rw [if_neg (by omega)]
/-- All holds behind each step. -/
theorem act (h : Safe σ P) (x : Stp) : Safe (σ.act x).1 (prevOf σ P x) := by
  unfold Sc.act
  split
  · rename_i hx; exact h.change x hx
  rename_i hx
  rw [prev_not hx]
  split; · exact h
  split; · exact h
  rename_i hc
  have hk : x.core.toNat < σ.cs.length := by omega
  split; · exact h.access hk x.a
  split; · exact h.walk hk
  split; · exact h.ack hk
  exact h.evict hk
end Safe
end Go.Proofs.Ytmfheghbgihdmaa
namespace Go.Proofs.Ytmfheghbgihdmaa
open Go.RowKit
set_option maxRecDepth 100000
def Ev.val (e : Ev) : Value := .agg #[(Value.int .i64) e.code, Value.bool e.fin, (Value.int .i64) e.an.fin, (Value.int .i64) e.an.frame, (Value.int .i64) e.an.rights, Value.bool e.back]
theorem load_event {w : World} {R : HProp} {b : Nat} {v0 v1 v2 v3 v4 v5 : Value} (h : Has w (blk b #[v0, v1, v2, v3, v4, v5] 39 * R)) : (loadVar 39 ⟨b, 0, none⟩).run Try.prog w = .ok (.agg #[v0, v1, v2, v3, v4, v5]) w :=
  run_loadVar_row w b 39 39 _ _ _ h.heap Try.underlying39 rfl (by kernel_rfl)
theorem refusedS (c : Int) (w : World) : Calls Try.prog 22 #[(Value.int .i64) c] w (Pure (.agg #[(Value.int .i64) c, Value.bool false, (Value.int .i64) 0, (Value.int .i64) 0, (Value.int .i64) 0, Value.bool false]) w) := by
  have h0 := (has_old w).new #[(Value.int .i64) 0, Value.bool false, (Value.int .i64) 0, (Value.int .i64) 0, (Value.int .i64) 0, Value.bool false] 39
  have h1 := (has_old w).new #[(Value.int .i64) c, Value.bool false, (Value.int .i64) 0, (Value.int .i64) 0, (Value.int .i64) 0, Value.bool false] 39
  obtain ⟨c0, c1, c2, c3, c4, c5⟩ := h0.cells6
  obtain ⟨f0, f1, f2, f3, f4, f5⟩ := h0.frees6
  have cl := h0.lt
  go_enter Try.func22, Try.ntmps22
  go_wp2_with fail
  refine ret_via (fun wz => Has wz (blk w.heap.size #[(Value.int .i64) c, Value.bool false, (Value.int .i64) 0, (Value.int .i64) 0, (Value.int .i64) 0, Value.bool false] 39 * (old w w.heap.size)) ∧ Ext w wz) ⟨by first | (with_reducible exact h1) | (with_reducible exact h0.set6 _ _ _ _ _ _), by (repeat (first | with_reducible assumption | with_reducible exact Ext.refl _ | with_reducible refine Ext.set ?_ _ _ | with_reducible refine Ext.alloc ?_ _ | with_reducible refine Ext.drew ?_ | with_reducible refine Ext.drewN ?_ _ | assumption | exact Ext.refl _ | refine Ext.alloc ?_ _ | refine Ext.set ?_ _ _ | refine Ext.drew ?_ | refine Ext.drewN ?_ _ | refine Ext.below ?_ (by assumption) | refine Ext.trans ?_ (by assumption)))⟩ ?_
  rintro wz ⟨hz, xz⟩
  exact bodyPost_ret (results_c Try.results22 rfl (load_event hz)) rfl ⟨rfl, below_of1 hz.right xz⟩
theorem toldS (a f r c : Int) (fin : Bool) (w : World) : Calls Try.prog 23 #[.agg #[(Value.int .i64) a, (Value.int .i64) f, (Value.int .i64) r], Value.bool fin, (Value.int .i64) c] w (Pure (.agg #[(Value.int .i64) c, Value.bool fin, (Value.int .i64) a, (Value.int .i64) f, (Value.int .i64) r, Value.bool false]) w) := by
  have h0 := ((has_old w).new #[(Value.int .i64) a, (Value.int .i64) f, (Value.int .i64) r] 37).new #[(Value.int .i64) 0, Value.bool false, (Value.int .i64) 0, (Value.int .i64) 0, (Value.int .i64) 0, Value.bool false] 39
  have h1 := ((has_old w).new #[(Value.int .i64) a, (Value.int .i64) f, (Value.int .i64) r] 37).new #[(Value.int .i64) c, Value.bool fin, (Value.int .i64) a, (Value.int .i64) f, (Value.int .i64) r, Value.bool false] 39
  simp only [World.size_alloc] at h0 h1
  obtain ⟨c0, c1, c2, c3, c4, c5⟩ := h0.cells6
  obtain ⟨f0, f1, f2, f3, f4, f5⟩ := h0.frees6
  obtain ⟨a0, a1, a2⟩ := h0.right.cells3
  have cl := h0.lt
  have al := h0.right.lt
  go_enter Try.func23, Try.ntmps23
  go_wp2_with fail
  refine ret_via (fun wz => Has wz (blk (w.heap.size + 1) #[(Value.int .i64) c, Value.bool fin, (Value.int .i64) a, (Value.int .i64) f, (Value.int .i64) r, Value.bool false] 39 * (blk w.heap.size #[(Value.int .i64) a, (Value.int .i64) f, (Value.int .i64) r] 37 * old w w.heap.size)) ∧ Ext w wz) ⟨by first | (with_reducible exact h1) | (with_reducible exact h0.set6 _ _ _ _ _ _), by (repeat (first | with_reducible assumption | with_reducible exact Ext.refl _ | with_reducible refine Ext.set ?_ _ _ | with_reducible refine Ext.alloc ?_ _ | with_reducible refine Ext.drew ?_ | with_reducible refine Ext.drewN ?_ _ | assumption | exact Ext.refl _ | refine Ext.alloc ?_ _ | refine Ext.set ?_ _ _ | refine Ext.drew ?_ | refine Ext.drewN ?_ _ | refine Ext.below ?_ (by assumption) | refine Ext.trans ?_ (by assumption)))⟩ ?_
  rintro wz ⟨hz, xz⟩
  exact bodyPost_ret (results_c Try.results23 rfl (load_event hz)) rfl ⟨rfl, below_of1 hz.right.right xz⟩
set_option maxHeartbeats 4000000 in
theorem begunS (b : Nat) (σ : Sc) (y : Sl) (m : Mp) (g : List Int) (G : Option Addr) (gn gd : Nat) (hy : y.ps.length = σ.cs.length) (hn1 : 1 ≤ σ.cs.length) (hn4 : σ.cs.length ≤ 4) (hov : overB σ.wait = true) (R : HProp) (w : World) (h : Has w (spaceIn b σ y (irow (.slice G gn gd) g * R))) :
    Calls Try.prog 38 #[.pointer (some ⟨b, 0, none⟩), .agg #[(Value.int .i64) m.page, (Value.int .i64) m.size, (Value.int .i64) m.frame, (Value.int .i64) m.rights], .slice G gn gd] w (Res (.agg #[(Value.int .i64) 0, Value.bool false, (Value.int .i64) 0, (Value.int .i64) 0, (Value.int .i64) 0, Value.bool false]) (spaceAt b (σ.post σ.s m g) * R) w) := by
  unfold spaceIn at h
  obtain rfl := irow_len (h.eq (show _ = irow (.slice G gn gd) g * (blk b #[.pointer (some ⟨y.f, 0, none⟩), (Value.int .i64) 0, .slice y.A y.ps.length y.c, .pointer (some ⟨y.sh, 0, none⟩), Value.bool σ.busy, .slice y.G σ.gone.length y.d] 63 * (prow (.slice y.A y.ps.length y.c) y.ps * (irow (.slice y.G σ.gone.length y.d) σ.gone * (shootAt y.sh σ.told σ.wait * (coresAt y.ps σ.cs * (frA y.f σ.s * R)))))) by ac_rfl))
  have h0 : Has _ (blk b #[.pointer (some ⟨y.f, 0, none⟩), (Value.int .i64) 0, .slice y.A y.ps.length y.c, .pointer (some ⟨y.sh, 0, none⟩), Value.bool σ.busy, .slice y.G σ.gone.length y.d] 63 * (shootAt y.sh σ.told σ.wait * (blk (w.heap.size + 1) #[(Value.int .i64) 0, Value.bool false, (Value.int .i64) 0, (Value.int .i64) 0, (Value.int .i64) 0, Value.bool false] 39 * (blk w.heap.size #[(Value.int .i64) m.page, (Value.int .i64) m.size, (Value.int .i64) m.frame, (Value.int .i64) m.rights] 31 * (prow (.slice y.A y.ps.length y.c) y.ps * (coresAt y.ps σ.cs * (frA y.f σ.s * (irow (.slice G g.length gd) g * R)))))))) :=
    (((h.new #[(Value.int .i64) m.page, (Value.int .i64) m.size, (Value.int .i64) m.frame, (Value.int .i64) m.rights] 31).new #[(Value.int .i64) 0, Value.bool false, (Value.int .i64) 0, (Value.int .i64) 0, (Value.int .i64) 0, Value.bool false] 39).eq (show _ = irow (.slice y.G σ.gone.length y.d) σ.gone * (blk b #[.pointer (some ⟨y.f, 0, none⟩), (Value.int .i64) 0, .slice y.A y.ps.length y.c, .pointer (some ⟨y.sh, 0, none⟩), Value.bool σ.busy, .slice y.G σ.gone.length y.d] 63 * (shootAt y.sh σ.told σ.wait * (blk (w.heap.size + 1) #[(Value.int .i64) 0, Value.bool false, (Value.int .i64) 0, (Value.int .i64) 0, (Value.int .i64) 0, Value.bool false] 39 * (blk w.heap.size #[(Value.int .i64) m.page, (Value.int .i64) m.size, (Value.int .i64) m.frame, (Value.int .i64) m.rights] 31 * (prow (.slice y.A y.ps.length y.c) y.ps * (coresAt y.ps σ.cs * (frA y.f σ.s * (irow (.slice G g.length gd) g * R)))))))) by (simp only [World.size_alloc]; ac_rfl))).right
  have x0 := ((Ext.refl w).alloc (.cells #[(Value.int .i64) m.page, (Value.int .i64) m.size, (Value.int .i64) m.frame, (Value.int .i64) m.rights] 31)).alloc (.cells #[(Value.int .i64) 0, Value.bool false, (Value.int .i64) 0, (Value.int .i64) 0, (Value.int .i64) 0, Value.bool false] 39)
  rw [← hy] at hn1 hn4
  have HP := Lib.hid (fun R w h => post_yes y.sh σ.told m σ.wait y.ps.length R w h hov hn1 hn4)
  have HS := Lib.hid (fun (w' : World) (h : Has w' (blk b #[.pointer (some ⟨y.f, 0, none⟩), (Value.int .i64) 0, .slice y.A y.ps.length y.c, .pointer (some ⟨y.sh, 0, none⟩), Value.bool true, .slice G g.length gd] 63 * (prow (.slice y.A y.ps.length y.c) y.ps * (irow (.slice G g.length gd) g * (shootAt y.sh m (postW y.ps.length) * (coresAt y.ps σ.cs * (frA y.f σ.s * R))))))) =>
    spaceAt_shut (b := b) (σ := σ.post σ.s m g) (y := ⟨y.f, y.sh, y.A, y.c, y.ps, G, gd⟩) (R := R) hy (by rw [hy] at h; unfold spaceIn; rw [hy]; exact h))
  clear h hov hy
  obtain ⟨c0, c1, c2, c3, c4, c5⟩ := h0.cells6
  obtain ⟨f0, f1, f2, f3, f4, f5⟩ := h0.frees6
  have cl := h0.lt
  generalize σ.told = td at *
  generalize σ.wait = wt at *
  generalize σ.busy = bz at *
  generalize σ.gone.length = ogl at *
  go_enter Try.func38, Try.ntmps38
  go_upto_region 2 with fail
  have h1 := (h0.set 4 (Value.bool true)).set 5 (.slice G g.length gd)
  have x1 := (x0.set ⟨b, 4, none⟩ (Value.bool true)).set ⟨b, 5, none⟩ (.slice G g.length gd)
  have h2 : Has _ (shootAt y.sh td wt * (blk b #[.pointer (some ⟨y.f, 0, none⟩), (Value.int .i64) 0, .slice y.A y.ps.length y.c, .pointer (some ⟨y.sh, 0, none⟩), Value.bool true, .slice G g.length gd] 63 * (blk w.heap.size #[(Value.int .i64) m.page, (Value.int .i64) m.size, (Value.int .i64) m.frame, (Value.int .i64) m.rights] 31 * (blk (w.heap.size + 1) #[(Value.int .i64) 0, Value.bool false, (Value.int .i64) 0, (Value.int .i64) 0, (Value.int .i64) 0, Value.bool false] 39 * (prow (.slice y.A y.ps.length y.c) y.ps * (coresAt y.ps σ.cs * (frA y.f σ.s * (irow (.slice G g.length gd) g * R)))))))) := h1.eq (show _ = _ by ac_rfl)
  clear h0 x0 h1 c0 c1 c2 c3 c4 c5 f0 f1 f2 f3 f4 f5 cl
  generalize (((w.alloc (.cells #[(Value.int .i64) m.page, (Value.int .i64) m.size, (Value.int .i64) m.frame, (Value.int .i64) m.rights] 31)).alloc (.cells #[(Value.int .i64) 0, Value.bool false, (Value.int .i64) 0, (Value.int .i64) 0, (Value.int .i64) 0, Value.bool false] 39)).setCell ⟨b, 4, none⟩ (Value.bool true)).setCell ⟨b, 5, none⟩ (.slice G g.length gd) = w1 at *
  have HK := Lib.hid (fun (w' : World) (P Q : HProp) (h : Has w' (P * (blk b #[.pointer (some ⟨y.f, 0, none⟩), (Value.int .i64) 0, .slice y.A y.ps.length y.c, .pointer (some ⟨y.sh, 0, none⟩), Value.bool true, .slice G g.length gd] 63 * (blk w.heap.size #[(Value.int .i64) m.page, (Value.int .i64) m.size, (Value.int .i64) m.frame, (Value.int .i64) m.rights] 31 * Q)))) => (⟨h.right.cell 2, h.right.cell 3, h.right.right.cell 0, h.right.right.cell 1, h.right.right.cell 2, h.right.right.cell 3⟩ :
    w'.cell? ⟨b, 2, none⟩ = some (.slice y.A y.ps.length y.c) ∧ w'.cell? ⟨b, 3, none⟩ = some (.pointer (some ⟨y.sh, 0, none⟩)) ∧ w'.cell? ⟨w.heap.size, 0, none⟩ = some ((Value.int .i64) m.page) ∧ w'.cell? ⟨w.heap.size, 1, none⟩ = some ((Value.int .i64) m.size) ∧ w'.cell? ⟨w.heap.size, 2, none⟩ = some ((Value.int .i64) m.frame) ∧ w'.cell? ⟨w.heap.size, 3, none⟩ = some ((Value.int .i64) m.rights)))
  have cl := h2.right.lt
  have ml := h2.right.right.lt
  have hd := h2.drew
  have xd := x1.drew
  go_region_held3 (fun w' => w'.cell? ⟨b, 2, none⟩ = some (.slice y.A y.ps.length y.c) ∧ w'.cell? ⟨b, 3, none⟩ = some (.pointer (some ⟨y.sh, 0, none⟩)) ∧ w'.cell? ⟨w.heap.size, 0, none⟩ = some ((Value.int .i64) m.page) ∧ w'.cell? ⟨w.heap.size, 1, none⟩ = some ((Value.int .i64) m.size) ∧ w'.cell? ⟨w.heap.size, 2, none⟩ = some ((Value.int .i64) m.frame) ∧ w'.cell? ⟨w.heap.size, 3, none⟩ = some ((Value.int .i64) m.rights)) (first | (with_reducible exact HK.out _ _ _ hd) | (with_reducible exact HK.out _ _ _ h5) | go_keep) (first | (go_at_call 66; (with_reducible refine (HP.out _ _ hd).mono ?_); rintro e w5 ⟨rfl, h5, x5⟩))
  all_goals
    have h6 : Has w5 (blk (w.heap.size + 1) #[(Value.int .i64) 0, Value.bool false, (Value.int .i64) 0, (Value.int .i64) 0, (Value.int .i64) 0, Value.bool false] 39 * (blk w.heap.size #[(Value.int .i64) m.page, (Value.int .i64) m.size, (Value.int .i64) m.frame, (Value.int .i64) m.rights] 31 * (blk b #[.pointer (some ⟨y.f, 0, none⟩), (Value.int .i64) 0, .slice y.A y.ps.length y.c, .pointer (some ⟨y.sh, 0, none⟩), Value.bool true, .slice G g.length gd] 63 * (prow (.slice y.A y.ps.length y.c) y.ps * (irow (.slice G g.length gd) g * (shootAt y.sh m (postW y.ps.length) * (coresAt y.ps σ.cs * (frA y.f σ.s * R)))))))) := h5.eq (by ac_rfl)
    have x6 := xd.trans x5
    clear hd xd h5 x5 h2 x1 HK HP
    obtain ⟨c0, c1, c2, c3, c4, c5⟩ := h6.cells6
    obtain ⟨f0, f1, f2, f3, f4, f5⟩ := h6.frees6
    have el := h6.lt
    go_wp2_with fail
    refine ret_via (fun wz => Has wz (blk (w.heap.size + 1) #[(Value.int .i64) 0, Value.bool false, (Value.int .i64) 0, (Value.int .i64) 0, (Value.int .i64) 0, Value.bool false] 39 * (blk w.heap.size #[(Value.int .i64) m.page, (Value.int .i64) m.size, (Value.int .i64) m.frame, (Value.int .i64) m.rights] 31 * (blk b #[.pointer (some ⟨y.f, 0, none⟩), (Value.int .i64) 0, .slice y.A y.ps.length y.c, .pointer (some ⟨y.sh, 0, none⟩), Value.bool true, .slice G g.length gd] 63 * (prow (.slice y.A y.ps.length y.c) y.ps * (irow (.slice G g.length gd) g * (shootAt y.sh m (postW y.ps.length) * (coresAt y.ps σ.cs * (frA y.f σ.s * R)))))))) ∧ Ext w wz) ⟨h6.set6 _ _ _ _ _ _, by (repeat (first | with_reducible assumption | with_reducible exact Ext.refl _ | with_reducible refine Ext.set ?_ _ _ | with_reducible refine Ext.alloc ?_ _ | with_reducible refine Ext.drew ?_ | with_reducible refine Ext.drewN ?_ _ | assumption | exact Ext.refl _ | refine Ext.alloc ?_ _ | refine Ext.set ?_ _ _ | refine Ext.drew ?_ | refine Ext.drewN ?_ _ | refine Ext.below ?_ (by assumption) | refine Ext.trans ?_ (by assumption)))⟩ ?_
    rintro wz ⟨hz, xz⟩
    exact bodyPost_ret (results_c Try.results38 rfl (load_event hz)) rfl ⟨rfl, HS.out _ hz.right.right, xz⟩
end Go.Proofs.Ytmfheghbgihdmaa
