/- Contract of walker's read. -/
import Derived.Test.YtmfheghbgihdmaaEntMap
import Derived.Test.YtmfheghbgihdmaaWkFind
import Derived.Test.YtmfheghbgihdmaaTblM3
import Derived.Test.YtmfheghbgihdmaaEntry2
import Derived.BigQuiet
namespace Go.Proofs.Ytmfheghbgihdmaa
open Go.RowKit
set_option maxRecDepth 100000
theorem Has.frees14 {w : World} {R : HProp} {b : Nat} {cs : Array Value} {t : TypeId} (h : Has w (blk b cs t * R)) :
    w.frozen? ⟨b, 1, none⟩ = false ∧ w.frozen? ⟨b, 5, none⟩ = false ∧ w.frozen? ⟨b, 6, none⟩ = false ∧ w.frozen? ⟨b, 7, none⟩ = false ∧ w.frozen? ⟨b, 8, none⟩ = false ∧ w.frozen? ⟨b, 9, none⟩ = false ∧ w.frozen? ⟨b, 10, none⟩ = false ∧ w.frozen? ⟨b, 11, none⟩ = false ∧ w.frozen? ⟨b, 12, none⟩ = false ∧ w.frozen? ⟨b, 13, none⟩ = false :=
  ⟨h.free 1, h.free 5, h.free 6, h.free 7, h.free 8, h.free 9, h.free 10, h.free 11, h.free 12, h.free 13⟩
theorem wk_leaf {w : World} {b : Nat} {root : Int} {c : Ck} {w0 : Int} {e0 : En} {R : HProp} (h : Has w (blk b (wkCells root c w0 e0) 127 * R)) (v : Int) (e : En) :
    Has (((((((w.setCell ⟨b, 7, none⟩ ((Value.int .u64) v)).setCell ⟨b, 8, none⟩ (Value.bool e.there)).setCell ⟨b, 9, none⟩ (Value.bool e.leaf)).setCell ⟨b, 10, none⟩ ((Value.int .i64) e.rights)).setCell ⟨b, 11, none⟩ (Value.bool e.used)).setCell ⟨b, 12, none⟩ (Value.bool e.dirty)).setCell ⟨b, 13, none⟩ ((Value.int .i64) e.frame)) (wkBlk b root c v e * R) := by
  have s7 : Has _ (blk b #[(Value.int .i64) root, (Value.int .i64) (stV c), (Value.int .i64) c.a.page, (Value.int .i64) c.a.kind, Value.bool c.a.user, (Value.int .i64) c.level, (Value.int .i64) c.t, (Value.int .u64) v, Value.bool e0.there, Value.bool e0.leaf, (Value.int .i64) e0.rights, Value.bool e0.used, Value.bool e0.dirty, (Value.int .i64) e0.frame] 127 * R) := h.set 7 ((Value.int .u64) v)
  have s8 : Has _ (blk b #[(Value.int .i64) root, (Value.int .i64) (stV c), (Value.int .i64) c.a.page, (Value.int .i64) c.a.kind, Value.bool c.a.user, (Value.int .i64) c.level, (Value.int .i64) c.t, (Value.int .u64) v, Value.bool e.there, Value.bool e0.leaf, (Value.int .i64) e0.rights, Value.bool e0.used, Value.bool e0.dirty, (Value.int .i64) e0.frame] 127 * R) := s7.set 8 (Value.bool e.there)
  have s9 : Has _ (blk b #[(Value.int .i64) root, (Value.int .i64) (stV c), (Value.int .i64) c.a.page, (Value.int .i64) c.a.kind, Value.bool c.a.user, (Value.int .i64) c.level, (Value.int .i64) c.t, (Value.int .u64) v, Value.bool e.there, Value.bool e.leaf, (Value.int .i64) e0.rights, Value.bool e0.used, Value.bool e0.dirty, (Value.int .i64) e0.frame] 127 * R) := s8.set 9 (Value.bool e.leaf)
  have s10 : Has _ (blk b #[(Value.int .i64) root, (Value.int .i64) (stV c), (Value.int .i64) c.a.page, (Value.int .i64) c.a.kind, Value.bool c.a.user, (Value.int .i64) c.level, (Value.int .i64) c.t, (Value.int .u64) v, Value.bool e.there, Value.bool e.leaf, (Value.int .i64) e.rights, Value.bool e0.used, Value.bool e0.dirty, (Value.int .i64) e0.frame] 127 * R) := s9.set 10 ((Value.int .i64) e.rights)
  have s11 : Has _ (blk b #[(Value.int .i64) root, (Value.int .i64) (stV c), (Value.int .i64) c.a.page, (Value.int .i64) c.a.kind, Value.bool c.a.user, (Value.int .i64) c.level, (Value.int .i64) c.t, (Value.int .u64) v, Value.bool e.there, Value.bool e.leaf, (Value.int .i64) e.rights, Value.bool e.used, Value.bool e0.dirty, (Value.int .i64) e0.frame] 127 * R) := s10.set 11 (Value.bool e.used)
  have s12 : Has _ (blk b #[(Value.int .i64) root, (Value.int .i64) (stV c), (Value.int .i64) c.a.page, (Value.int .i64) c.a.kind, Value.bool c.a.user, (Value.int .i64) c.level, (Value.int .i64) c.t, (Value.int .u64) v, Value.bool e.there, Value.bool e.leaf, (Value.int .i64) e.rights, Value.bool e.used, Value.bool e.dirty, (Value.int .i64) e0.frame] 127 * R) := s11.set 12 (Value.bool e.dirty)
  have s13 : Has _ (blk b #[(Value.int .i64) root, (Value.int .i64) (stV c), (Value.int .i64) c.a.page, (Value.int .i64) c.a.kind, Value.bool c.a.user, (Value.int .i64) c.level, (Value.int .i64) c.t, (Value.int .u64) v, Value.bool e.there, Value.bool e.leaf, (Value.int .i64) e.rights, Value.bool e.used, Value.bool e.dirty, (Value.int .i64) e.frame] 127 * R) := s12.set 13 ((Value.int .i64) e.frame)
  exact s13
theorem Mk.idle (c : Ck) (w : Int) (e : En) : Mk c.idle w e := fun h => by cases h
theorem Mk.off {c : Ck} (w : Int) (e : En) (h : c.mark = false) : Mk c w e := fun h' => by rw [h] at h'; cases h'
set_option maxHeartbeats 8000000 in
theorem readW (b f : Nat) (root : Int) (c : Ck) (s : Ms) (hs : s.Ok) (hc : c.Ok) (hon : c.on = true) (hmk : c.mark = false) (w0 : Int) (e0 : En) (R : HProp) (W : World) (h : Has W (wkBlk b root c w0 e0 * (framesAt f s * R))) :
    Calls Try.prog 72 #[.pointer (some ⟨b, 0, none⟩), .pointer (some ⟨f, 0, none⟩)] W (Res (.tuple #[RsV (stepC s root c).r, (Value.int .i64) (stepC s root c).code]) (walkerAt b root (stepC s root c).c * (framesAt f (stepC s root c).s * R)) W) := by
  have h1 := h.new #[Value.bool false, (Value.int .i64) 0, (Value.int .i64) 0, (Value.int .i64) 0, (Value.int .i64) 0, (Value.int .i64) 0, (Value.int .i64) 0, (Value.int .i64) 0, Value.bool false] 106
  have x1 := (Ext.refl W).alloc (.cells #[Value.bool false, (Value.int .i64) 0, (Value.int .i64) 0, (Value.int .i64) 0, (Value.int .i64) 0, (Value.int .i64) 0, (Value.int .i64) 0, (Value.int .i64) 0, Value.bool false] 106)
  have hp := check_has (hc.acc hon)
  have HI := Lib.hid (fun X => index_any c.a.page c.level X)
  have HL := Lib.hid (fun R X (h : Has X (framesAt f s * R)) => loadF f s c.t (index c.a.page c.level) R X h)
  rw [hasW_index hp (hc.l0 hon) (hc.l3 hon)] at HL
  have hstep : stepC s root c = if s.has c.t = false then ⟨c, s, Rs.zero, 12⟩
      else if decC (c.word s) c.level ≠ 0 then ⟨c, s, Rs.zero, decC (c.word s) c.level⟩
      else if (decE (c.word s) c.level).there = false then c.endWith s 1
      else if (decE (c.word s) c.level).leaf = false then ⟨{ c with t := (decE (c.word s) c.level).frame, level := c.level - 1 }, s, Rs.zero, 0⟩
      else if may (decE (c.word s) c.level).rights c.a = false then c.endWith s 2
      else if readyE (decE (c.word s) c.level) c.a = true then c.leafEnd s (decE (c.word s) c.level)
      else ⟨{ c with mark := true, w := c.word s }, s, Rs.zero, 0⟩ := by
    unfold stepC
    rw [if_neg (by rw [hon]; simp)]
    simp only [hmk, Bool.false_eq_true, false_and, if_false]
  clear h
  cases ht : s.has c.t with
  | false =>
    have hy := Lib.hid (show stepC s root c = ⟨c, s, Rs.zero, 12⟩ by rw [hstep, if_pos ht])
    have HM := Lib.hid (Mk.off w0 e0 hmk)
    rw [ht] at HL
    clear hstep ht hp hon hmk hc hs
    generalize loadV s c.t (index c.a.page c.level) = v at *
    generalize index c.a.page c.level = ix at *
    go_enter Try.func72, Try.ntmps72
    go_upto_region 1 with fail
    generalize W.alloc (.cells #[Value.bool false, (Value.int .i64) 0, (Value.int .i64) 0, (Value.int .i64) 0, (Value.int .i64) 0, (Value.int .i64) 0, (Value.int .i64) 0, (Value.int .i64) 0, Value.bool false] 106) = W1 at *
    generalize W.heap.size = X0 at *
    have hb := h1.p2
    unfold wkBlk at hb
    obtain ⟨k0, k1, k2, k3, k4, k5, k6, k7, k8, k9, k10, k11, k12, k13⟩ := hb.cells14
    have v2 := via_cell k2
    have v5 := via_cell k5
    have v6 := via_cell k6
    clear hb k0 k1 k2 k3 k4 k5 k6 k7 k8 k9 k10 k11 k12 k13
    refine wp_region_via (by kernel_rfl) (by kernel_rfl) ?_
    repeat (first | go_big_quiet_step ((first | (go_at_call 62; exact Same.via (HI.out _)) | (go_at_call 80; exact Same.via (HL.out _ _ (h1.right.right.via _))))) | quiet_step ((first | (go_at_call 62; exact Same.via (HI.out _)) | (go_at_call 80; exact Same.via (HL.out _ _ (h1.right.right.via _))))))
    refine wpQuiet_nil ?_
    intro _ hw'
    obtain ⟨uq, hw''⟩ := hw'
    subst hw''
    have h2 := h1.via uq
    have x2 := x1.below (via_below _ uq)
    generalize via W1 uq = W2 at *
    clear h1 x1 v2 v5 v6 HI HL
    have hb := h2.p2
    unfold wkBlk at hb
    have k5 : W2.cell? ⟨b, 5, none⟩ = some ((Value.int .i64) c.level) := hb.cell 5
    have kl := hb.lt
    clear hb
    obtain ⟨r0, r1, r2, r3, r4, r5, r6, r7, r8⟩ := h2.cells9
    obtain ⟨g0, g1, g2, g3, g4, g5, g6, g7, g8⟩ := h2.frees9
    have rl := h2.lt
    go_wp2_with fail
    refine ret_via (fun wz => Has wz (blk X0 #[Value.bool false, (Value.int .i64) 0, (Value.int .i64) 0, (Value.int .i64) 0, (Value.int .i64) 0, (Value.int .i64) 0, (Value.int .i64) 0, (Value.int .i64) 0, Value.bool false] 106 * (wkBlk b root c w0 e0 * (framesAt f s * R))) ∧ Ext W wz) ⟨h2.set9 _ _ _ _ _ _ _ _ _, by (repeat (first | with_reducible assumption | with_reducible exact Ext.refl _ | with_reducible refine Ext.set ?_ _ _ | with_reducible refine Ext.alloc ?_ _ | with_reducible refine Ext.drew ?_ | with_reducible refine Ext.drewN ?_ _ | assumption | exact Ext.refl _ | refine Ext.alloc ?_ _ | refine Ext.set ?_ _ _ | refine Ext.drew ?_ | refine Ext.drewN ?_ _ | refine Ext.below ?_ (by assumption) | refine Ext.trans ?_ (by assumption)))⟩ ?_
    rintro wz ⟨hz, xz⟩
    exact bodyPost_ret (results_ct Try.results72 rfl rfl (load_result hz)) rfl ⟨by rw [hy.out]; rfl, by rw [hy.out]; exact walkerAt_shut HM.out hz.right, xz⟩
  | true =>
    rw [ht] at HL
    rw [if_neg (by rw [ht]; simp)] at hstep
    have hlw : loadV s c.t (index c.a.page c.level) = c.word s := by
      unfold loadV Ck.word wordV
      rw [if_pos (by rw [hasW_index hp (hc.l0 hon) (hc.l3 hon)]; exact ht)]
    rw [hlw] at HL
    have hwb := hs.inv.wok c.t.toNat (index c.a.page c.level).toNat
    have HD := Lib.hid (fun X => decode_any (c.word s) c.level X hwb.1 hwb.2)
    clear hwb hlw
    have HM0 := Lib.hid (Mk.off w0 e0 hmk)
    by_cases hd : decC (c.word s) c.level = 0
    case neg =>
      have hy := Lib.hid (show stepC s root c = ⟨c, s, Rs.zero, decC (c.word s) c.level⟩ by rw [hstep, if_pos hd])
      have hv := Lib.hid (decV_no (w := c.word s) (l := c.level) rfl (.inl hd))
      rw [hv.out] at HD
      have hn : (decC (c.word s) c.level != 0) = true := by simpa using hd
      clear hv hstep ht hp hon hmk hc hs hd
      generalize decC (c.word s) c.level = code at *
      generalize c.word s = v at *
      generalize index c.a.page c.level = ix at *
      go_enter Try.func72, Try.ntmps72
      go_upto_region 1 with fail
      generalize W.alloc (.cells #[Value.bool false, (Value.int .i64) 0, (Value.int .i64) 0, (Value.int .i64) 0, (Value.int .i64) 0, (Value.int .i64) 0, (Value.int .i64) 0, (Value.int .i64) 0, Value.bool false] 106) = W1 at *
      generalize W.heap.size = X0 at *
      have hb := h1.p2
      unfold wkBlk at hb
      obtain ⟨k0, k1, k2, k3, k4, k5, k6, k7, k8, k9, k10, k11, k12, k13⟩ := hb.cells14
      have v2 := via_cell k2
      have v5 := via_cell k5
      have v6 := via_cell k6
      clear hb k0 k1 k2 k3 k4 k5 k6 k7 k8 k9 k10 k11 k12 k13
      refine wp_region_via (by kernel_rfl) (by kernel_rfl) ?_
      repeat (first | go_big_quiet_step ((first | (go_at_call 62; exact Same.via (HI.out _)) | (go_at_call 80; exact Same.via (HL.out _ _ (h1.right.right.via _))))) | quiet_step ((first | (go_at_call 62; exact Same.via (HI.out _)) | (go_at_call 80; exact Same.via (HL.out _ _ (h1.right.right.via _))))))
      refine wpQuiet_nil ?_
      intro _ hw'
      obtain ⟨uq, hw''⟩ := hw'
      subst hw''
      have h2 := h1.via uq
      have x2 := x1.below (via_below _ uq)
      generalize via W1 uq = W2 at *
      clear h1 x1 v2 v5 v6 HI HL
      have hb := h2.p2
      unfold wkBlk at hb
      have k5 : W2.cell? ⟨b, 5, none⟩ = some ((Value.int .i64) c.level) := hb.cell 5
      have kl := hb.lt
      clear hb
      go_wp2_with fail
      refine (HD.out _).mono ?_; rintro e2 w3 ⟨rfl, b3⟩
      have h3 := h2.below b3
      have x3 := x2.below b3
      clear h2 x2 b3 HD k5 kl
      obtain ⟨r0, r1, r2, r3, r4, r5, r6, r7, r8⟩ := h3.cells9
      obtain ⟨g0, g1, g2, g3, g4, g5, g6, g7, g8⟩ := h3.frees9
      have rl := h3.lt
      go_wp2_with fail
      refine ret_via (fun wz => Has wz (blk X0 #[Value.bool false, (Value.int .i64) 0, (Value.int .i64) 0, (Value.int .i64) 0, (Value.int .i64) 0, (Value.int .i64) 0, (Value.int .i64) 0, (Value.int .i64) 0, Value.bool false] 106 * (wkBlk b root c w0 e0 * (framesAt f s * R))) ∧ Ext W wz) ⟨(h3.set9 _ _ _ _ _ _ _ _ _).alloc _, by (repeat (first | with_reducible assumption | with_reducible exact Ext.refl _ | with_reducible refine Ext.set ?_ _ _ | with_reducible refine Ext.alloc ?_ _ | with_reducible refine Ext.drew ?_ | with_reducible refine Ext.drewN ?_ _ | assumption | exact Ext.refl _ | refine Ext.alloc ?_ _ | refine Ext.set ?_ _ _ | refine Ext.drew ?_ | refine Ext.drewN ?_ _ | refine Ext.below ?_ (by assumption) | refine Ext.trans ?_ (by assumption)))⟩ ?_
      rintro wz ⟨hz, xz⟩
      exact bodyPost_ret (results_ct Try.results72 rfl rfl (load_result hz)) rfl ⟨by rw [hy.out]; rfl, by rw [hy.out]; exact walkerAt_shut HM0.out hz.right, xz⟩
    case pos =>
      rw [if_neg (by rw [hd]; simp)] at hstep
      have hv : decV (c.word s) c.level = .tuple #[.agg #[Value.bool (decE (c.word s) c.level).there, Value.bool (decE (c.word s) c.level).leaf, (Value.int .i64) (decE (c.word s) c.level).rights, Value.bool (decE (c.word s) c.level).used, Value.bool (decE (c.word s) c.level).dirty, (Value.int .i64) (decE (c.word s) c.level).frame], (Value.int .i64) 0] := by unfold decV; rw [hd]
      rw [hv] at HD
      have hdE : Hid (decE (c.word s) c.level = decE (c.word s) c.level) := Lib.hid rfl
      generalize hE : decE (c.word s) c.level = e at *
      have HE0 := Lib.hid hE
      obtain ⟨th, lf, rg, us, di, fr⟩ := e
      dsimp only at hstep
      clear hv hdE hE
      cases th with
      | false =>
        rw [if_pos rfl] at hstep
        have hy := Lib.hid hstep
        clear hstep ht hp hon hmk hc hs hd HE0
        generalize c.word s = v at *
        generalize index c.a.page c.level = ix at *
        go_enter Try.func72, Try.ntmps72
        go_upto_region 1 with fail
        generalize W.alloc (.cells #[Value.bool false, (Value.int .i64) 0, (Value.int .i64) 0, (Value.int .i64) 0, (Value.int .i64) 0, (Value.int .i64) 0, (Value.int .i64) 0, (Value.int .i64) 0, Value.bool false] 106) = W1 at *
        generalize W.heap.size = X0 at *
        have hb := h1.p2
        unfold wkBlk at hb
        obtain ⟨k0, k1, k2, k3, k4, k5, k6, k7, k8, k9, k10, k11, k12, k13⟩ := hb.cells14
        have v2 := via_cell k2
        have v5 := via_cell k5
        have v6 := via_cell k6
        clear hb k0 k1 k2 k3 k4 k5 k6 k7 k8 k9 k10 k11 k12 k13
        refine wp_region_via (by kernel_rfl) (by kernel_rfl) ?_
        repeat (first | go_big_quiet_step ((first | (go_at_call 62; exact Same.via (HI.out _)) | (go_at_call 80; exact Same.via (HL.out _ _ (h1.right.right.via _))))) | quiet_step ((first | (go_at_call 62; exact Same.via (HI.out _)) | (go_at_call 80; exact Same.via (HL.out _ _ (h1.right.right.via _))))))
        refine wpQuiet_nil ?_
        intro _ hw'
        obtain ⟨uq, hw''⟩ := hw'
        subst hw''
        have h2 := h1.via uq
        have x2 := x1.below (via_below _ uq)
        generalize via W1 uq = W2 at *
        clear h1 x1 v2 v5 v6 HI HL
        have hb := h2.p2
        unfold wkBlk at hb
        have k5 : W2.cell? ⟨b, 5, none⟩ = some ((Value.int .i64) c.level) := hb.cell 5
        have kl := hb.lt
        clear hb
        go_wp2_with fail
        refine (HD.out _).mono ?_; rintro e2 w3 ⟨rfl, b3⟩
        have h3 := h2.below b3
        have x3 := x2.below b3
        clear h2 x2 b3 HD k5 kl
        have h4 := h3.new #[Value.bool false, Value.bool lf, (Value.int .i64) rg, Value.bool us, Value.bool di, (Value.int .i64) fr] 51
        have x4 := x3.alloc (.cells #[Value.bool false, Value.bool lf, (Value.int .i64) rg, Value.bool us, Value.bool di, (Value.int .i64) fr] 51)
        clear h3 x3
        go_upto_region 8 with fail
        generalize w3.alloc (.cells #[Value.bool false, Value.bool lf, (Value.int .i64) rg, Value.bool us, Value.bool di, (Value.int .i64) fr] 51) = w4 at *
        generalize w3.heap.size = EB at *
        obtain ⟨e0', e1', e2', e3', e4', e5'⟩ := h4.cells6
        have el := h4.lt
        have h6 : Has w4 (wkBlk b root c w0 e0 * (blk X0 #[Value.bool false, (Value.int .i64) 0, (Value.int .i64) 0, (Value.int .i64) 0, (Value.int .i64) 0, (Value.int .i64) 0, (Value.int .i64) 0, (Value.int .i64) 0, Value.bool false] 106 * (blk EB #[Value.bool false, Value.bool lf, (Value.int .i64) rg, Value.bool us, Value.bool di, (Value.int .i64) fr] 51 * (framesAt f s * R)))) := (h4).eq (by ac_rfl)
        have HE := Lib.hid (fun R X h => endW b root c w0 e0 ⟨1, 0, 0⟩ ⟨Mp.zero, false⟩ R X h)
        go_wp2_with fail
        refine (HE.out _ _ h6).mono ?_; rintro e2 w6 ⟨rfl, h8, x8⟩
        have h7 := h8.p2
        obtain ⟨r0, r1, r2, r3, r4, r5, r6, r7, r8⟩ := h7.cells9
        obtain ⟨g0, g1, g2, g3, g4, g5, g6, g7, g8⟩ := h7.frees9
        have rl := h7.lt
        have x7 := (x4).trans x8
        clear h6 h8 HE x8
        go_wp2_with fail
        refine ret_via (fun wz => Has wz (blk X0 #[Value.bool true, (Value.int .i64) 1, (Value.int .i64) 0, (Value.int .i64) 0, (Value.int .i64) 0, (Value.int .i64) 0, (Value.int .i64) 0, (Value.int .i64) 0, Value.bool false] 106 * (wkBlk b root c.idle w0 e0 * (blk EB #[Value.bool false, Value.bool lf, (Value.int .i64) rg, Value.bool us, Value.bool di, (Value.int .i64) fr] 51 * (framesAt f s * R)))) ∧ Ext W wz) ⟨h7.set9 _ _ _ _ _ _ _ _ _, by (repeat (first | with_reducible assumption | with_reducible exact Ext.refl _ | with_reducible refine Ext.set ?_ _ _ | with_reducible refine Ext.alloc ?_ _ | with_reducible refine Ext.drew ?_ | with_reducible refine Ext.drewN ?_ _ | assumption | exact Ext.refl _ | refine Ext.alloc ?_ _ | refine Ext.set ?_ _ _ | refine Ext.drew ?_ | refine Ext.drewN ?_ _ | refine Ext.below ?_ (by assumption) | refine Ext.trans ?_ (by assumption)))⟩ ?_
        rintro wz ⟨hz, xz⟩
        exact bodyPost_ret (results_ct Try.results72 rfl rfl (load_result hz)) rfl ⟨by rw [hy.out]; rfl, by rw [hy.out]; exact walkerAt_shut (Mk.idle _ _ _) hz.right.p2.right, xz⟩
      | true =>
        rw [if_neg (by simp)] at hstep
        cases lf with
        | false =>
          rw [if_pos rfl] at hstep
          have hy := Lib.hid hstep
          have hwr : IntKind.i64.wrap (c.level - 1) = c.level - 1 := by
            have := hc.l0 hon
            have := hc.l3 hon
            rw [IntKind.wrap_i64]; omega
          have HM := Lib.hid (Mk.off (c := { c with t := fr, level := c.level - 1 }) w0 e0 hmk)
          clear hstep ht hp hon hmk hc hs hd HE0
          generalize c.word s = v at *
          generalize index c.a.page c.level = ix at *
          go_enter Try.func72, Try.ntmps72
          go_upto_region 1 with fail
          generalize W.alloc (.cells #[Value.bool false, (Value.int .i64) 0, (Value.int .i64) 0, (Value.int .i64) 0, (Value.int .i64) 0, (Value.int .i64) 0, (Value.int .i64) 0, (Value.int .i64) 0, Value.bool false] 106) = W1 at *
          generalize W.heap.size = X0 at *
          have hb := h1.p2
          unfold wkBlk at hb
          obtain ⟨k0, k1, k2, k3, k4, k5, k6, k7, k8, k9, k10, k11, k12, k13⟩ := hb.cells14
          have v2 := via_cell k2
          have v5 := via_cell k5
          have v6 := via_cell k6
          clear hb k0 k1 k2 k3 k4 k5 k6 k7 k8 k9 k10 k11 k12 k13
          refine wp_region_via (by kernel_rfl) (by kernel_rfl) ?_
          repeat (first | go_big_quiet_step ((first | (go_at_call 62; exact Same.via (HI.out _)) | (go_at_call 80; exact Same.via (HL.out _ _ (h1.right.right.via _))))) | quiet_step ((first | (go_at_call 62; exact Same.via (HI.out _)) | (go_at_call 80; exact Same.via (HL.out _ _ (h1.right.right.via _))))))
          refine wpQuiet_nil ?_
          intro _ hw'
          obtain ⟨uq, hw''⟩ := hw'
          subst hw''
          have h2 := h1.via uq
          have x2 := x1.below (via_below _ uq)
          generalize via W1 uq = W2 at *
          clear h1 x1 v2 v5 v6 HI HL
          have hb := h2.p2
          unfold wkBlk at hb
          have k5 : W2.cell? ⟨b, 5, none⟩ = some ((Value.int .i64) c.level) := hb.cell 5
          have kl := hb.lt
          clear hb
          go_wp2_with fail
          refine (HD.out _).mono ?_; rintro e2 w3 ⟨rfl, b3⟩
          have h3 := h2.below b3
          have x3 := x2.below b3
          clear h2 x2 b3 HD k5 kl
          have h4 := h3.new #[Value.bool true, Value.bool false, (Value.int .i64) rg, Value.bool us, Value.bool di, (Value.int .i64) fr] 51
          have x4 := x3.alloc (.cells #[Value.bool true, Value.bool false, (Value.int .i64) rg, Value.bool us, Value.bool di, (Value.int .i64) fr] 51)
          clear h3 x3
          go_upto_region 10 with fail
          generalize w3.alloc (.cells #[Value.bool true, Value.bool false, (Value.int .i64) rg, Value.bool us, Value.bool di, (Value.int .i64) fr] 51) = w4 at *
          generalize w3.heap.size = EB at *
          obtain ⟨e0', e1', e2', e3', e4', e5'⟩ := h4.cells6
          have el := h4.lt
          have h5 : Has w4 (wkBlk b root c w0 e0 * (blk EB #[Value.bool true, Value.bool false, (Value.int .i64) rg, Value.bool us, Value.bool di, (Value.int .i64) fr] 51 * (blk X0 #[Value.bool false, (Value.int .i64) 0, (Value.int .i64) 0, (Value.int .i64) 0, (Value.int .i64) 0, (Value.int .i64) 0, (Value.int .i64) 0, (Value.int .i64) 0, Value.bool false] 106 * (framesAt f s * R)))) := h4.eq (by ac_rfl)
          have h6 : Has w4 (wkBlk b root c w0 e0 * (blk X0 #[Value.bool false, (Value.int .i64) 0, (Value.int .i64) 0, (Value.int .i64) 0, (Value.int .i64) 0, (Value.int .i64) 0, (Value.int .i64) 0, (Value.int .i64) 0, Value.bool false] 106 * (blk EB #[Value.bool true, Value.bool false, (Value.int .i64) rg, Value.bool us, Value.bool di, (Value.int .i64) fr] 51 * (framesAt f s * R)))) := h4.eq (by ac_rfl)
          unfold wkBlk at h5 h6
          have n1 := h5.ne
          have n2 := n1.symm
          have n3 := h6.ne
          have n4 := n3.symm
          have k5 : w4.cell? ⟨b, 5, none⟩ = some ((Value.int .i64) c.level) := h5.cell 5
          have k6 : w4.cell? ⟨b, 6, none⟩ = some ((Value.int .i64) c.t) := h5.cell 6
          have f5 := h5.free 5
          have f6 := h5.free 6
          have kl := h5.lt
          have h7 : Has ((w4.setCell ⟨b, 5, none⟩ ((Value.int .i64) (c.level - 1))).setCell ⟨b, 6, none⟩ ((Value.int .i64) fr)) (wkBlk b root { c with t := fr, level := c.level - 1 } w0 e0 * (blk X0 #[Value.bool false, (Value.int .i64) 0, (Value.int .i64) 0, (Value.int .i64) 0, (Value.int .i64) 0, (Value.int .i64) 0, (Value.int .i64) 0, (Value.int .i64) 0, Value.bool false] 106 * (blk EB #[Value.bool true, Value.bool false, (Value.int .i64) rg, Value.bool us, Value.bool di, (Value.int .i64) fr] 51 * (framesAt f s * R)))) := (h6.set 5 _).set 6 _
          obtain ⟨r0, r1, r2, r3, r4, r5, r6, r7, r8⟩ := h6.right.cells9
          obtain ⟨g0, g1, g2, g3, g4, g5, g6, g7, g8⟩ := h6.right.frees9
          have rl := h6.right.lt
          clear h4 h5 h6
          go_wp2_with fail
          refine ret_via (fun wz => Has wz (blk X0 #[Value.bool false, (Value.int .i64) 0, (Value.int .i64) 0, (Value.int .i64) 0, (Value.int .i64) 0, (Value.int .i64) 0, (Value.int .i64) 0, (Value.int .i64) 0, Value.bool false] 106 * (wkBlk b root { c with t := fr, level := c.level - 1 } w0 e0 * (blk EB #[Value.bool true, Value.bool false, (Value.int .i64) rg, Value.bool us, Value.bool di, (Value.int .i64) fr] 51 * (framesAt f s * R)))) ∧ Ext W wz) ⟨h7.p2.set9 _ _ _ _ _ _ _ _ _, by (repeat (first | with_reducible assumption | with_reducible exact Ext.refl _ | with_reducible refine Ext.set ?_ _ _ | with_reducible refine Ext.alloc ?_ _ | with_reducible refine Ext.drew ?_ | with_reducible refine Ext.drewN ?_ _ | assumption | exact Ext.refl _ | refine Ext.alloc ?_ _ | refine Ext.set ?_ _ _ | refine Ext.drew ?_ | refine Ext.drewN ?_ _ | refine Ext.below ?_ (by assumption) | refine Ext.trans ?_ (by assumption)))⟩ ?_
          rintro wz ⟨hz, xz⟩
          exact bodyPost_ret (results_ct Try.results72 rfl rfl (load_result hz)) rfl ⟨by rw [hy.out]; rfl, by rw [hy.out]; exact walkerAt_shut HM.out hz.right.p2.right, xz⟩
        | true =>
          rw [if_neg (by simp)] at hstep
          have HY := Lib.hid (fun X => may_any rg c.a.page c.a.kind c.a.user X)
          rw [show (⟨c.a.page, c.a.kind, c.a.user⟩ : Ac) = c.a from rfl] at HY
          cases hmay : may rg c.a with
          | false =>
            rw [if_pos hmay] at hstep
            rw [hmay] at HY
            have hy := Lib.hid hstep
            clear hstep ht hp hon hmk hc hs hd HE0 hmay
            generalize c.word s = v at *
            generalize index c.a.page c.level = ix at *
            go_enter Try.func72, Try.ntmps72
            go_upto_region 1 with fail
            generalize W.alloc (.cells #[Value.bool false, (Value.int .i64) 0, (Value.int .i64) 0, (Value.int .i64) 0, (Value.int .i64) 0, (Value.int .i64) 0, (Value.int .i64) 0, (Value.int .i64) 0, Value.bool false] 106) = W1 at *
            generalize W.heap.size = X0 at *
            have hb := h1.p2
            unfold wkBlk at hb
            obtain ⟨k0, k1, k2, k3, k4, k5, k6, k7, k8, k9, k10, k11, k12, k13⟩ := hb.cells14
            have v2 := via_cell k2
            have v5 := via_cell k5
            have v6 := via_cell k6
            clear hb k0 k1 k2 k3 k4 k5 k6 k7 k8 k9 k10 k11 k12 k13
            refine wp_region_via (by kernel_rfl) (by kernel_rfl) ?_
            repeat (first | go_big_quiet_step ((first | (go_at_call 62; exact Same.via (HI.out _)) | (go_at_call 80; exact Same.via (HL.out _ _ (h1.right.right.via _))))) | quiet_step ((first | (go_at_call 62; exact Same.via (HI.out _)) | (go_at_call 80; exact Same.via (HL.out _ _ (h1.right.right.via _))))))
            refine wpQuiet_nil ?_
            intro _ hw'
            obtain ⟨uq, hw''⟩ := hw'
            subst hw''
            have h2 := h1.via uq
            have x2 := x1.below (via_below _ uq)
            generalize via W1 uq = W2 at *
            clear h1 x1 v2 v5 v6 HI HL
            have hb := h2.p2
            unfold wkBlk at hb
            have k5 : W2.cell? ⟨b, 5, none⟩ = some ((Value.int .i64) c.level) := hb.cell 5
            have kl := hb.lt
            clear hb
            go_wp2_with fail
            refine (HD.out _).mono ?_; rintro e2 w3 ⟨rfl, b3⟩
            have h3 := h2.below b3
            have x3 := x2.below b3
            clear h2 x2 b3 HD k5 kl
            have h4 := h3.new #[Value.bool true, Value.bool true, (Value.int .i64) rg, Value.bool us, Value.bool di, (Value.int .i64) fr] 51
            have x4 := x3.alloc (.cells #[Value.bool true, Value.bool true, (Value.int .i64) rg, Value.bool us, Value.bool di, (Value.int .i64) fr] 51)
            clear h3 x3
            go_upto_region 13 with fail
            generalize w3.alloc (.cells #[Value.bool true, Value.bool true, (Value.int .i64) rg, Value.bool us, Value.bool di, (Value.int .i64) fr] 51) = w4 at *
            generalize w3.heap.size = EB at *
            obtain ⟨e0', e1', e2', e3', e4', e5'⟩ := h4.cells6
            have el := h4.lt
            have hb : Has w4 (wkBlk b root c w0 e0 * (blk EB #[Value.bool true, Value.bool true, (Value.int .i64) rg, Value.bool us, Value.bool di, (Value.int .i64) fr] 51 * (blk X0 #[Value.bool false, (Value.int .i64) 0, (Value.int .i64) 0, (Value.int .i64) 0, (Value.int .i64) 0, (Value.int .i64) 0, (Value.int .i64) 0, (Value.int .i64) 0, Value.bool false] 106 * (framesAt f s * R)))) := h4.eq (by ac_rfl)
            unfold wkBlk at hb
            have v2 := via_cell (hb.cell 2)
            have v3 := via_cell (hb.cell 3)
            have v4 := via_cell (hb.cell 4)
            have ve2 := via_cell e2'
            clear hb e0' e1' e2' e3' e4' e5' el
            refine wp_region_via (by kernel_rfl) (by kernel_rfl) ?_
            repeat (first | go_big_quiet_step ((go_at_call 42; exact Pure.via (HY.out _))) | quiet_step ((go_at_call 42; exact Pure.via (HY.out _))))
            refine wpQuiet_nil ?_
            intro _ hw'
            obtain ⟨uq, hw''⟩ := hw'
            subst hw''
            have h5 := h4.via uq
            have x5 := x4.below (via_below _ uq)
            generalize via w4 uq = w5 at *
            clear h4 x4 v2 v3 v4 ve2 HY
            have h6 : Has w5 (wkBlk b root c w0 e0 * (blk X0 #[Value.bool false, (Value.int .i64) 0, (Value.int .i64) 0, (Value.int .i64) 0, (Value.int .i64) 0, (Value.int .i64) 0, (Value.int .i64) 0, (Value.int .i64) 0, Value.bool false] 106 * (blk EB #[Value.bool true, Value.bool true, (Value.int .i64) rg, Value.bool us, Value.bool di, (Value.int .i64) fr] 51 * (framesAt f s * R)))) := (h5).eq (by ac_rfl)
            have HE := Lib.hid (fun R X h => endW b root c w0 e0 ⟨2, 0, 0⟩ ⟨Mp.zero, false⟩ R X h)
            go_wp2_with fail
            refine (HE.out _ _ h6).mono ?_; rintro e2 w6 ⟨rfl, h8, x8⟩
            have h7 := h8.p2
            obtain ⟨r0, r1, r2, r3, r4, r5, r6, r7, r8⟩ := h7.cells9
            obtain ⟨g0, g1, g2, g3, g4, g5, g6, g7, g8⟩ := h7.frees9
            have rl := h7.lt
            have x7 := (x5).trans x8
            clear h6 h8 HE x8
            go_wp2_with fail
            refine ret_via (fun wz => Has wz (blk X0 #[Value.bool true, (Value.int .i64) 2, (Value.int .i64) 0, (Value.int .i64) 0, (Value.int .i64) 0, (Value.int .i64) 0, (Value.int .i64) 0, (Value.int .i64) 0, Value.bool false] 106 * (wkBlk b root c.idle w0 e0 * (blk EB #[Value.bool true, Value.bool true, (Value.int .i64) rg, Value.bool us, Value.bool di, (Value.int .i64) fr] 51 * (framesAt f s * R)))) ∧ Ext W wz) ⟨h7.set9 _ _ _ _ _ _ _ _ _, by (repeat (first | with_reducible assumption | with_reducible exact Ext.refl _ | with_reducible refine Ext.set ?_ _ _ | with_reducible refine Ext.alloc ?_ _ | with_reducible refine Ext.drew ?_ | with_reducible refine Ext.drewN ?_ _ | assumption | exact Ext.refl _ | refine Ext.alloc ?_ _ | refine Ext.set ?_ _ _ | refine Ext.drew ?_ | refine Ext.drewN ?_ _ | refine Ext.below ?_ (by assumption) | refine Ext.trans ?_ (by assumption)))⟩ ?_
            rintro wz ⟨hz, xz⟩
            exact bodyPost_ret (results_ct Try.results72 rfl rfl (load_result hz)) rfl ⟨by rw [hy.out]; rfl, by rw [hy.out]; exact walkerAt_shut (Mk.idle _ _ _) hz.right.p2.right, xz⟩
          | true =>
            rw [if_neg (by rw [hmay]; simp)] at hstep
            rw [hmay] at HY
            have hwd : Hid (HE0.out = HE0.out) := Lib.hid rfl
            have HDN := Lib.hid (fun R X h => doneW b root c (c.word s) ⟨true, true, rg, us, di, fr⟩ R X h)
            have HMK := Lib.hid (fun R X h => markedW b root c (c.word s) ⟨true, true, rg, us, di, fr⟩ R X h)
            have HM1 : Hid (Mk { c with mark := true, w := c.word s } (c.word s) ⟨true, true, rg, us, di, fr⟩) := Lib.hid (fun _ => ⟨rfl, HE0.out.symm⟩)
            have hst2 : stV { c with mark := true, w := c.word s } = 2 := by unfold stV; simp [hon]
            cases hr : readyE ⟨true, true, rg, us, di, fr⟩ c.a with
            | true =>
              rw [if_pos hr] at hstep
              have hme := (mark_ready ⟨true, true, rg, us, di, fr⟩ c.a).2 hr
              rw [hme] at HDN HMK
              have hy := Lib.hid hstep
              clear hstep ht hp hon hmk hc hs hd HE0 hmay hr hme hwd HM1 hst2
              generalize c.word s = v at *
              generalize index c.a.page c.level = ix at *
              go_enter Try.func72, Try.ntmps72
              go_upto_region 1 with fail
              generalize W.alloc (.cells #[Value.bool false, (Value.int .i64) 0, (Value.int .i64) 0, (Value.int .i64) 0, (Value.int .i64) 0, (Value.int .i64) 0, (Value.int .i64) 0, (Value.int .i64) 0, Value.bool false] 106) = W1 at *
              generalize W.heap.size = X0 at *
              have hb := h1.p2
              unfold wkBlk at hb
              obtain ⟨k0, k1, k2, k3, k4, k5, k6, k7, k8, k9, k10, k11, k12, k13⟩ := hb.cells14
              have v2 := via_cell k2
              have v5 := via_cell k5
              have v6 := via_cell k6
              clear hb k0 k1 k2 k3 k4 k5 k6 k7 k8 k9 k10 k11 k12 k13
              refine wp_region_via (by kernel_rfl) (by kernel_rfl) ?_
              repeat (first | go_big_quiet_step ((first | (go_at_call 62; exact Same.via (HI.out _)) | (go_at_call 80; exact Same.via (HL.out _ _ (h1.right.right.via _))))) | quiet_step ((first | (go_at_call 62; exact Same.via (HI.out _)) | (go_at_call 80; exact Same.via (HL.out _ _ (h1.right.right.via _))))))
              refine wpQuiet_nil ?_
              intro _ hw'
              obtain ⟨uq, hw''⟩ := hw'
              subst hw''
              have h2 := h1.via uq
              have x2 := x1.below (via_below _ uq)
              generalize via W1 uq = W2 at *
              clear h1 x1 v2 v5 v6 HI HL
              have hb := h2.p2
              unfold wkBlk at hb
              have k5 : W2.cell? ⟨b, 5, none⟩ = some ((Value.int .i64) c.level) := hb.cell 5
              have kl := hb.lt
              clear hb
              go_wp2_with fail
              refine (HD.out _).mono ?_; rintro e2 w3 ⟨rfl, b3⟩
              have h3 := h2.below b3
              have x3 := x2.below b3
              clear h2 x2 b3 HD k5 kl
              have h4 := h3.new #[Value.bool true, Value.bool true, (Value.int .i64) rg, Value.bool us, Value.bool di, (Value.int .i64) fr] 51
              have x4 := x3.alloc (.cells #[Value.bool true, Value.bool true, (Value.int .i64) rg, Value.bool us, Value.bool di, (Value.int .i64) fr] 51)
              clear h3 x3
              go_upto_region 13 with fail
              generalize w3.alloc (.cells #[Value.bool true, Value.bool true, (Value.int .i64) rg, Value.bool us, Value.bool di, (Value.int .i64) fr] 51) = w4 at *
              generalize w3.heap.size = EB at *
              obtain ⟨e0', e1', e2', e3', e4', e5'⟩ := h4.cells6
              have el := h4.lt
              have hb : Has w4 (wkBlk b root c w0 e0 * (blk EB #[Value.bool true, Value.bool true, (Value.int .i64) rg, Value.bool us, Value.bool di, (Value.int .i64) fr] 51 * (blk X0 #[Value.bool false, (Value.int .i64) 0, (Value.int .i64) 0, (Value.int .i64) 0, (Value.int .i64) 0, (Value.int .i64) 0, (Value.int .i64) 0, (Value.int .i64) 0, Value.bool false] 106 * (framesAt f s * R)))) := h4.eq (by ac_rfl)
              unfold wkBlk at hb
              have v2 := via_cell (hb.cell 2)
              have v3 := via_cell (hb.cell 3)
              have v4 := via_cell (hb.cell 4)
              have ve2 := via_cell e2'
              clear hb e0' e1' e2' e3' e4' e5' el
              refine wp_region_via (by kernel_rfl) (by kernel_rfl) ?_
              repeat (first | go_big_quiet_step ((go_at_call 42; exact Pure.via (HY.out _))) | quiet_step ((go_at_call 42; exact Pure.via (HY.out _))))
              refine wpQuiet_nil ?_
              intro _ hw'
              obtain ⟨uq, hw''⟩ := hw'
              subst hw''
              have h5 := h4.via uq
              have x5 := x4.below (via_below _ uq)
              generalize via w4 uq = w5 at *
              clear h4 x4 v2 v3 v4 ve2 HY
              go_upto_region 15 with fail
              have h6 : Has w5 (wkBlk b root c w0 e0 * (blk EB #[Value.bool true, Value.bool true, (Value.int .i64) rg, Value.bool us, Value.bool di, (Value.int .i64) fr] 51 * (blk X0 #[Value.bool false, (Value.int .i64) 0, (Value.int .i64) 0, (Value.int .i64) 0, (Value.int .i64) 0, (Value.int .i64) 0, (Value.int .i64) 0, (Value.int .i64) 0, Value.bool false] 106 * (framesAt f s * R)))) := h5.eq (by ac_rfl)
              clear h5
              unfold wkBlk at h6
              go_cut [] (fun wx => Has wx (wkBlk b root c v ⟨true, true, rg, us, di, fr⟩ * (blk X0 #[Value.bool false, (Value.int .i64) 0, (Value.int .i64) 0, (Value.int .i64) 0, (Value.int .i64) 0, (Value.int .i64) 0, (Value.int .i64) 0, (Value.int .i64) 0, Value.bool false] 106 * (blk EB #[Value.bool true, Value.bool true, (Value.int .i64) rg, Value.bool us, Value.bool di, (Value.int .i64) fr] 51 * (framesAt f s * R)))) ∧ Ext W wx)
              case first =>
                have n1 := h6.ne
                have n2 := n1.symm
                obtain ⟨k0, k1, k2, k3, k4, k5, k6, k7, k8, k9, k10, k11, k12, k13⟩ := h6.cells14
                obtain ⟨f1, f5, f6, f7, f8, f9, f10, f11, f12, f13⟩ := h6.frees14
                have kl := h6.lt
                obtain ⟨e0', e1', e2', e3', e4', e5'⟩ := h6.right.cells6
                have el := h6.right.lt
                clear k0 k1 k2 k3 k4 k5 k6 f1 f5 f6
                go_region
                all_goals
                  go_wp2_with fail
                  go_meet
                  case rel =>
                    refine ⟨Has.eq (P := wkBlk b root c v ⟨true, true, rg, us, di, fr⟩ * (blk EB #[Value.bool true, Value.bool true, (Value.int .i64) rg, Value.bool us, Value.bool di, (Value.int .i64) fr] 51 * (blk X0 #[Value.bool false, (Value.int .i64) 0, (Value.int .i64) 0, (Value.int .i64) 0, (Value.int .i64) 0, (Value.int .i64) 0, (Value.int .i64) 0, (Value.int .i64) 0, Value.bool false] 106 * (framesAt f s * R)))) ?_ (by ac_rfl), by (repeat (first | with_reducible assumption | with_reducible exact Ext.refl _ | with_reducible refine Ext.set ?_ _ _ | with_reducible refine Ext.alloc ?_ _ | with_reducible refine Ext.drew ?_ | with_reducible refine Ext.drewN ?_ _ | assumption | exact Ext.refl _ | refine Ext.alloc ?_ _ | refine Ext.set ?_ _ _ | refine Ext.drew ?_ | refine Ext.drewN ?_ _ | refine Ext.below ?_ (by assumption) | refine Ext.trans ?_ (by assumption)))⟩
                    with_reducible exact (wk_leaf h6 v ⟨true, true, rg, us, di, fr⟩).drew
              case rest =>
                obtain ⟨h7, x7⟩ := hcut
                clear h6 x5
                go_wp2_with fail
                have ve0 := via_cell (h7.right.right.cell 0)
                have ve1 := via_cell (h7.right.right.cell 1)
                have ve2 := via_cell (h7.right.right.cell 2)
                have ve3 := via_cell (h7.right.right.cell 3)
                have ve4 := via_cell (h7.right.right.cell 4)
                have ve5 := via_cell (h7.right.right.cell 5)
                refine wp_region_via (by kernel_rfl) (by kernel_rfl) ?_
                repeat (first | go_big_quiet_step ((go_at_call 73; exact Pure.via (HMK.out _ _ (h7.via _)))) | quiet_step ((go_at_call 73; exact Pure.via (HMK.out _ _ (h7.via _)))))
                refine wpQuiet_nil ?_
                intro _ hw'
                obtain ⟨uq, hw''⟩ := hw'
                subst hw''
                have h8 := h7.via uq
                have x8 := x7.below (via_below _ uq)
                generalize via wc uq = w8 at *
                clear h7 x7 ve0 ve1 ve2 ve3 ve4 ve5 HMK
                go_wp2_with fail
                refine (HDN.out _ _ h8).mono ?_; rintro e2 w9 ⟨rfl, h9, x9⟩
                have hA := h9.p2
                obtain ⟨r0, r1, r2, r3, r4, r5, r6, r7, r8⟩ := hA.cells9
                obtain ⟨g0, g1, g2, g3, g4, g5, g6, g7, g8⟩ := hA.frees9
                have rl := hA.lt
                have xA := x8.trans x9
                clear h8 x8 h9 x9 HDN
                have hyr := Lib.hid (show (c.leafEnd s ⟨true, true, rg, us, di, fr⟩) = ⟨c.idle, s, ⟨true, answer (leafMap ⟨true, true, rg, us, di, fr⟩ c.level c.a.page) c.a, ⟨leafMap ⟨true, true, rg, us, di, fr⟩ c.level c.a.page, di⟩⟩, 0⟩ from rfl)
                generalize answer (leafMap ⟨true, true, rg, us, di, fr⟩ c.level c.a.page) c.a = an at *
                generalize leafMap ⟨true, true, rg, us, di, fr⟩ c.level c.a.page = lm at *
                go_wp2_with fail
                refine ret_via (fun wz => Has wz (blk X0 #[Value.bool true, (Value.int .i64) an.fin, (Value.int .i64) an.frame, (Value.int .i64) an.rights, (Value.int .i64) lm.page, (Value.int .i64) lm.size, (Value.int .i64) lm.frame, (Value.int .i64) lm.rights, Value.bool di] 106 * (wkBlk b root c.idle v ⟨true, true, rg, us, di, fr⟩ * (blk EB #[Value.bool true, Value.bool true, (Value.int .i64) rg, Value.bool us, Value.bool di, (Value.int .i64) fr] 51 * (framesAt f s * R)))) ∧ Ext W wz) ⟨hA.set9 _ _ _ _ _ _ _ _ _, by (repeat (first | with_reducible assumption | with_reducible exact Ext.refl _ | with_reducible refine Ext.set ?_ _ _ | with_reducible refine Ext.alloc ?_ _ | with_reducible refine Ext.drew ?_ | with_reducible refine Ext.drewN ?_ _ | assumption | exact Ext.refl _ | refine Ext.alloc ?_ _ | refine Ext.set ?_ _ _ | refine Ext.drew ?_ | refine Ext.drewN ?_ _ | refine Ext.below ?_ (by assumption) | refine Ext.trans ?_ (by assumption)))⟩ ?_
                rintro wz ⟨hz, xz⟩
                exact bodyPost_ret (results_ct Try.results72 rfl rfl (load_result hz)) rfl ⟨by rw [hy.out, hyr.out]; rfl, by rw [hy.out, hyr.out]; exact walkerAt_shut (Mk.idle _ _ _) hz.right.p2.right, xz⟩
            | false =>
              rw [if_neg (by rw [hr]; simp)] at hstep
              have hcase : us = false ∨ (us = true ∧ di = false ∧ (c.a.kind == 1) = true) := by
                unfold readyE at hr
                cases us with
                | false => exact .inl rfl
                | true =>
                  right
                  cases di with
                  | true => simp at hr
                  | false => exact ⟨rfl, rfl, by simpa using hr⟩
              have hy := Lib.hid hstep
              have HST2 := Lib.hid hst2
              have HMK' : Hid (∀ (R : HProp) (X : World), Has X (wkBlk b root c (c.word s) ⟨true, true, rg, us, di, fr⟩ * R) → Calls Try.prog 73 #[.pointer (some ⟨b, 0, none⟩)] X (Pure (.agg #[Value.bool true, Value.bool true, (Value.int .i64) rg, Value.bool true, Value.bool (di || c.a.kind == 1), (Value.int .i64) fr]) X)) := Lib.hid (fun R X h => HMK.out R X h)
              clear hstep ht hp hon hmk hc hs hd HE0 hmay hr hwd HDN hst2 HMK
              have HMK := HMK'
              clear HMK'
              generalize c.word s = v at *
              generalize index c.a.page c.level = ix at *
              rcases hcase with rfl | ⟨rfl, rfl, hk1⟩
              · generalize (di || c.a.kind == 1) = B at HMK
                go_enter Try.func72, Try.ntmps72
                go_upto_region 1 with fail
                generalize W.alloc (.cells #[Value.bool false, (Value.int .i64) 0, (Value.int .i64) 0, (Value.int .i64) 0, (Value.int .i64) 0, (Value.int .i64) 0, (Value.int .i64) 0, (Value.int .i64) 0, Value.bool false] 106) = W1 at *
                generalize W.heap.size = X0 at *
                have hb := h1.p2
                unfold wkBlk at hb
                obtain ⟨k0, k1, k2, k3, k4, k5, k6, k7, k8, k9, k10, k11, k12, k13⟩ := hb.cells14
                have v2 := via_cell k2
                have v5 := via_cell k5
                have v6 := via_cell k6
                clear hb k0 k1 k2 k3 k4 k5 k6 k7 k8 k9 k10 k11 k12 k13
                refine wp_region_via (by kernel_rfl) (by kernel_rfl) ?_
                repeat (first | go_big_quiet_step ((first | (go_at_call 62; exact Same.via (HI.out _)) | (go_at_call 80; exact Same.via (HL.out _ _ (h1.right.right.via _))))) | quiet_step ((first | (go_at_call 62; exact Same.via (HI.out _)) | (go_at_call 80; exact Same.via (HL.out _ _ (h1.right.right.via _))))))
                refine wpQuiet_nil ?_
                intro _ hw'
                obtain ⟨uq, hw''⟩ := hw'
                subst hw''
                have h2 := h1.via uq
                have x2 := x1.below (via_below _ uq)
                generalize via W1 uq = W2 at *
                clear h1 x1 v2 v5 v6 HI HL
                have hb := h2.p2
                unfold wkBlk at hb
                have k5 : W2.cell? ⟨b, 5, none⟩ = some ((Value.int .i64) c.level) := hb.cell 5
                have kl := hb.lt
                clear hb
                go_wp2_with fail
                refine (HD.out _).mono ?_; rintro e2 w3 ⟨rfl, b3⟩
                have h3 := h2.below b3
                have x3 := x2.below b3
                clear h2 x2 b3 HD k5 kl
                have h4 := h3.new #[Value.bool true, Value.bool true, (Value.int .i64) rg, Value.bool false, Value.bool di, (Value.int .i64) fr] 51
                have x4 := x3.alloc (.cells #[Value.bool true, Value.bool true, (Value.int .i64) rg, Value.bool false, Value.bool di, (Value.int .i64) fr] 51)
                clear h3 x3
                go_upto_region 13 with fail
                generalize w3.alloc (.cells #[Value.bool true, Value.bool true, (Value.int .i64) rg, Value.bool false, Value.bool di, (Value.int .i64) fr] 51) = w4 at *
                generalize w3.heap.size = EB at *
                obtain ⟨e0', e1', e2', e3', e4', e5'⟩ := h4.cells6
                have el := h4.lt
                have hb : Has w4 (wkBlk b root c w0 e0 * (blk EB #[Value.bool true, Value.bool true, (Value.int .i64) rg, Value.bool false, Value.bool di, (Value.int .i64) fr] 51 * (blk X0 #[Value.bool false, (Value.int .i64) 0, (Value.int .i64) 0, (Value.int .i64) 0, (Value.int .i64) 0, (Value.int .i64) 0, (Value.int .i64) 0, (Value.int .i64) 0, Value.bool false] 106 * (framesAt f s * R)))) := h4.eq (by ac_rfl)
                unfold wkBlk at hb
                have v2 := via_cell (hb.cell 2)
                have v3 := via_cell (hb.cell 3)
                have v4 := via_cell (hb.cell 4)
                have ve2 := via_cell e2'
                clear hb e0' e1' e2' e3' e4' e5' el
                refine wp_region_via (by kernel_rfl) (by kernel_rfl) ?_
                repeat (first | go_big_quiet_step ((go_at_call 42; exact Pure.via (HY.out _))) | quiet_step ((go_at_call 42; exact Pure.via (HY.out _))))
                refine wpQuiet_nil ?_
                intro _ hw'
                obtain ⟨uq, hw''⟩ := hw'
                subst hw''
                have h5 := h4.via uq
                have x5 := x4.below (via_below _ uq)
                generalize via w4 uq = w5 at *
                clear h4 x4 v2 v3 v4 ve2 HY
                go_upto_region 15 with fail
                have h6 : Has w5 (wkBlk b root c w0 e0 * (blk EB #[Value.bool true, Value.bool true, (Value.int .i64) rg, Value.bool false, Value.bool di, (Value.int .i64) fr] 51 * (blk X0 #[Value.bool false, (Value.int .i64) 0, (Value.int .i64) 0, (Value.int .i64) 0, (Value.int .i64) 0, (Value.int .i64) 0, (Value.int .i64) 0, (Value.int .i64) 0, Value.bool false] 106 * (framesAt f s * R)))) := h5.eq (by ac_rfl)
                clear h5
                unfold wkBlk at h6
                go_cut [] (fun wx => Has wx (wkBlk b root c v ⟨true, true, rg, false, di, fr⟩ * (blk X0 #[Value.bool false, (Value.int .i64) 0, (Value.int .i64) 0, (Value.int .i64) 0, (Value.int .i64) 0, (Value.int .i64) 0, (Value.int .i64) 0, (Value.int .i64) 0, Value.bool false] 106 * (blk EB #[Value.bool true, Value.bool true, (Value.int .i64) rg, Value.bool false, Value.bool di, (Value.int .i64) fr] 51 * (framesAt f s * R)))) ∧ Ext W wx)
                case first =>
                  have n1 := h6.ne
                  have n2 := n1.symm
                  obtain ⟨k0, k1, k2, k3, k4, k5, k6, k7, k8, k9, k10, k11, k12, k13⟩ := h6.cells14
                  obtain ⟨f1, f5, f6, f7, f8, f9, f10, f11, f12, f13⟩ := h6.frees14
                  have kl := h6.lt
                  obtain ⟨e0', e1', e2', e3', e4', e5'⟩ := h6.right.cells6
                  have el := h6.right.lt
                  clear k0 k1 k2 k3 k4 k5 k6 f1 f5 f6
                  go_region
                  all_goals
                    go_wp2_with fail
                    go_meet
                    case rel =>
                      refine ⟨Has.eq (P := wkBlk b root c v ⟨true, true, rg, false, di, fr⟩ * (blk EB #[Value.bool true, Value.bool true, (Value.int .i64) rg, Value.bool false, Value.bool di, (Value.int .i64) fr] 51 * (blk X0 #[Value.bool false, (Value.int .i64) 0, (Value.int .i64) 0, (Value.int .i64) 0, (Value.int .i64) 0, (Value.int .i64) 0, (Value.int .i64) 0, (Value.int .i64) 0, Value.bool false] 106 * (framesAt f s * R)))) ?_ (by ac_rfl), by (repeat (first | with_reducible assumption | with_reducible exact Ext.refl _ | with_reducible refine Ext.set ?_ _ _ | with_reducible refine Ext.alloc ?_ _ | with_reducible refine Ext.drew ?_ | with_reducible refine Ext.drewN ?_ _ | assumption | exact Ext.refl _ | refine Ext.alloc ?_ _ | refine Ext.set ?_ _ _ | refine Ext.drew ?_ | refine Ext.drewN ?_ _ | refine Ext.below ?_ (by assumption) | refine Ext.trans ?_ (by assumption)))⟩
                      with_reducible exact (wk_leaf h6 v ⟨true, true, rg, false, di, fr⟩).drew
                case rest =>
                  obtain ⟨h7, x7⟩ := hcut
                  clear h6 x5
                  go_wp2_with fail
                  have ve0 := via_cell (h7.right.right.cell 0)
                  have ve1 := via_cell (h7.right.right.cell 1)
                  have ve2 := via_cell (h7.right.right.cell 2)
                  have ve3 := via_cell (h7.right.right.cell 3)
                  have ve4 := via_cell (h7.right.right.cell 4)
                  have ve5 := via_cell (h7.right.right.cell 5)
                  refine wp_region_via (by kernel_rfl) (by kernel_rfl) ?_
                  repeat (first | go_big_quiet_step ((go_at_call 73; exact Pure.via (HMK.out _ _ (h7.via _)))) | quiet_step ((go_at_call 73; exact Pure.via (HMK.out _ _ (h7.via _)))))
                  refine wpQuiet_nil ?_
                  intro _ hw'
                  obtain ⟨uq, hw''⟩ := hw'
                  subst hw''
                  have h8 := h7.via uq
                  have x8 := x7.below (via_below _ uq)
                  generalize via wc uq = w8 at *
                  clear h7 x7 ve0 ve1 ve2 ve3 ve4 ve5 HMK
                  have h9 := h8
                  unfold wkBlk at h9
                  have k1 : w8.cell? ⟨b, 1, none⟩ = some ((Value.int .i64) (stV c)) := h9.cell 1
                  have f1 := h9.free 1
                  have kl := h9.lt
                  have n1 := h9.ne
                  have n2 := n1.symm
                  obtain ⟨r0, r1, r2, r3, r4, r5, r6, r7, r8⟩ := h9.right.cells9
                  obtain ⟨g0, g1, g2, g3, g4, g5, g6, g7, g8⟩ := h9.right.frees9
                  have rl := h9.right.lt
                  have hA : Has (w8.setCell ⟨b, 1, none⟩ ((Value.int .i64) 2)) (wkBlk b root { c with mark := true, w := v } v ⟨true, true, rg, false, di, fr⟩ * (blk X0 #[Value.bool false, (Value.int .i64) 0, (Value.int .i64) 0, (Value.int .i64) 0, (Value.int .i64) 0, (Value.int .i64) 0, (Value.int .i64) 0, (Value.int .i64) 0, Value.bool false] 106 * (blk EB #[Value.bool true, Value.bool true, (Value.int .i64) rg, Value.bool false, Value.bool di, (Value.int .i64) fr] 51 * (framesAt f s * R)))) := by
                    unfold wkBlk wkCells
                    rw [HST2.out]
                    exact h9.set 1 ((Value.int .i64) 2)
                  clear h8 h9
                  go_wp2_with fail
                  refine ret_via (fun wz => Has wz (blk X0 #[Value.bool false, (Value.int .i64) 0, (Value.int .i64) 0, (Value.int .i64) 0, (Value.int .i64) 0, (Value.int .i64) 0, (Value.int .i64) 0, (Value.int .i64) 0, Value.bool false] 106 * (wkBlk b root { c with mark := true, w := v } v ⟨true, true, rg, false, di, fr⟩ * (blk EB #[Value.bool true, Value.bool true, (Value.int .i64) rg, Value.bool false, Value.bool di, (Value.int .i64) fr] 51 * (framesAt f s * R)))) ∧ Ext W wz) ⟨hA.p2.set9 _ _ _ _ _ _ _ _ _, by (repeat (first | with_reducible assumption | with_reducible exact Ext.refl _ | with_reducible refine Ext.set ?_ _ _ | with_reducible refine Ext.alloc ?_ _ | with_reducible refine Ext.drew ?_ | with_reducible refine Ext.drewN ?_ _ | assumption | exact Ext.refl _ | refine Ext.alloc ?_ _ | refine Ext.set ?_ _ _ | refine Ext.drew ?_ | refine Ext.drewN ?_ _ | refine Ext.below ?_ (by assumption) | refine Ext.trans ?_ (by assumption)))⟩ ?_
                  rintro wz ⟨hz, xz⟩
                  exact bodyPost_ret (results_ct Try.results72 rfl rfl (load_result hz)) rfl ⟨by rw [hy.out]; rfl, by rw [hy.out]; exact walkerAt_shut HM1.out hz.right.p2.right, xz⟩
              · rw [hk1] at HMK
                clear hk1
                go_enter Try.func72, Try.ntmps72
                go_upto_region 1 with fail
                generalize W.alloc (.cells #[Value.bool false, (Value.int .i64) 0, (Value.int .i64) 0, (Value.int .i64) 0, (Value.int .i64) 0, (Value.int .i64) 0, (Value.int .i64) 0, (Value.int .i64) 0, Value.bool false] 106) = W1 at *
                generalize W.heap.size = X0 at *
                have hb := h1.p2
                unfold wkBlk at hb
                obtain ⟨k0, k1, k2, k3, k4, k5, k6, k7, k8, k9, k10, k11, k12, k13⟩ := hb.cells14
                have v2 := via_cell k2
                have v5 := via_cell k5
                have v6 := via_cell k6
                clear hb k0 k1 k2 k3 k4 k5 k6 k7 k8 k9 k10 k11 k12 k13
                refine wp_region_via (by kernel_rfl) (by kernel_rfl) ?_
                repeat (first | go_big_quiet_step ((first | (go_at_call 62; exact Same.via (HI.out _)) | (go_at_call 80; exact Same.via (HL.out _ _ (h1.right.right.via _))))) | quiet_step ((first | (go_at_call 62; exact Same.via (HI.out _)) | (go_at_call 80; exact Same.via (HL.out _ _ (h1.right.right.via _))))))
                refine wpQuiet_nil ?_
                intro _ hw'
                obtain ⟨uq, hw''⟩ := hw'
                subst hw''
                have h2 := h1.via uq
                have x2 := x1.below (via_below _ uq)
                generalize via W1 uq = W2 at *
                clear h1 x1 v2 v5 v6 HI HL
                have hb := h2.p2
                unfold wkBlk at hb
                have k5 : W2.cell? ⟨b, 5, none⟩ = some ((Value.int .i64) c.level) := hb.cell 5
                have kl := hb.lt
                clear hb
                go_wp2_with fail
                refine (HD.out _).mono ?_; rintro e2 w3 ⟨rfl, b3⟩
                have h3 := h2.below b3
                have x3 := x2.below b3
                clear h2 x2 b3 HD k5 kl
                have h4 := h3.new #[Value.bool true, Value.bool true, (Value.int .i64) rg, Value.bool true, Value.bool false, (Value.int .i64) fr] 51
                have x4 := x3.alloc (.cells #[Value.bool true, Value.bool true, (Value.int .i64) rg, Value.bool true, Value.bool false, (Value.int .i64) fr] 51)
                clear h3 x3
                go_upto_region 13 with fail
                generalize w3.alloc (.cells #[Value.bool true, Value.bool true, (Value.int .i64) rg, Value.bool true, Value.bool false, (Value.int .i64) fr] 51) = w4 at *
                generalize w3.heap.size = EB at *
                obtain ⟨e0', e1', e2', e3', e4', e5'⟩ := h4.cells6
                have el := h4.lt
                have hb : Has w4 (wkBlk b root c w0 e0 * (blk EB #[Value.bool true, Value.bool true, (Value.int .i64) rg, Value.bool true, Value.bool false, (Value.int .i64) fr] 51 * (blk X0 #[Value.bool false, (Value.int .i64) 0, (Value.int .i64) 0, (Value.int .i64) 0, (Value.int .i64) 0, (Value.int .i64) 0, (Value.int .i64) 0, (Value.int .i64) 0, Value.bool false] 106 * (framesAt f s * R)))) := h4.eq (by ac_rfl)
                unfold wkBlk at hb
                have v2 := via_cell (hb.cell 2)
                have v3 := via_cell (hb.cell 3)
                have v4 := via_cell (hb.cell 4)
                have ve2 := via_cell e2'
                clear hb e0' e1' e2' e3' e4' e5' el
                refine wp_region_via (by kernel_rfl) (by kernel_rfl) ?_
                repeat (first | go_big_quiet_step ((go_at_call 42; exact Pure.via (HY.out _))) | quiet_step ((go_at_call 42; exact Pure.via (HY.out _))))
                refine wpQuiet_nil ?_
                intro _ hw'
                obtain ⟨uq, hw''⟩ := hw'
                subst hw''
                have h5 := h4.via uq
                have x5 := x4.below (via_below _ uq)
                generalize via w4 uq = w5 at *
                clear h4 x4 v2 v3 v4 ve2 HY
                go_upto_region 15 with fail
                have h6 : Has w5 (wkBlk b root c w0 e0 * (blk EB #[Value.bool true, Value.bool true, (Value.int .i64) rg, Value.bool true, Value.bool false, (Value.int .i64) fr] 51 * (blk X0 #[Value.bool false, (Value.int .i64) 0, (Value.int .i64) 0, (Value.int .i64) 0, (Value.int .i64) 0, (Value.int .i64) 0, (Value.int .i64) 0, (Value.int .i64) 0, Value.bool false] 106 * (framesAt f s * R)))) := h5.eq (by ac_rfl)
                clear h5
                unfold wkBlk at h6
                go_cut [] (fun wx => Has wx (wkBlk b root c v ⟨true, true, rg, true, false, fr⟩ * (blk X0 #[Value.bool false, (Value.int .i64) 0, (Value.int .i64) 0, (Value.int .i64) 0, (Value.int .i64) 0, (Value.int .i64) 0, (Value.int .i64) 0, (Value.int .i64) 0, Value.bool false] 106 * (blk EB #[Value.bool true, Value.bool true, (Value.int .i64) rg, Value.bool true, Value.bool false, (Value.int .i64) fr] 51 * (framesAt f s * R)))) ∧ Ext W wx)
                case first =>
                  have n1 := h6.ne
                  have n2 := n1.symm
                  obtain ⟨k0, k1, k2, k3, k4, k5, k6, k7, k8, k9, k10, k11, k12, k13⟩ := h6.cells14
                  obtain ⟨f1, f5, f6, f7, f8, f9, f10, f11, f12, f13⟩ := h6.frees14
                  have kl := h6.lt
                  obtain ⟨e0', e1', e2', e3', e4', e5'⟩ := h6.right.cells6
                  have el := h6.right.lt
                  clear k0 k1 k2 k3 k4 k5 k6 f1 f5 f6
                  go_region
                  all_goals
                    go_wp2_with fail
                    go_meet
                    case rel =>
                      refine ⟨Has.eq (P := wkBlk b root c v ⟨true, true, rg, true, false, fr⟩ * (blk EB #[Value.bool true, Value.bool true, (Value.int .i64) rg, Value.bool true, Value.bool false, (Value.int .i64) fr] 51 * (blk X0 #[Value.bool false, (Value.int .i64) 0, (Value.int .i64) 0, (Value.int .i64) 0, (Value.int .i64) 0, (Value.int .i64) 0, (Value.int .i64) 0, (Value.int .i64) 0, Value.bool false] 106 * (framesAt f s * R)))) ?_ (by ac_rfl), by (repeat (first | with_reducible assumption | with_reducible exact Ext.refl _ | with_reducible refine Ext.set ?_ _ _ | with_reducible refine Ext.alloc ?_ _ | with_reducible refine Ext.drew ?_ | with_reducible refine Ext.drewN ?_ _ | assumption | exact Ext.refl _ | refine Ext.alloc ?_ _ | refine Ext.set ?_ _ _ | refine Ext.drew ?_ | refine Ext.drewN ?_ _ | refine Ext.below ?_ (by assumption) | refine Ext.trans ?_ (by assumption)))⟩
                      with_reducible exact (wk_leaf h6 v ⟨true, true, rg, true, false, fr⟩).drew
                case rest =>
                  obtain ⟨h7, x7⟩ := hcut
                  clear h6 x5
                  go_wp2_with fail
                  have ve0 := via_cell (h7.right.right.cell 0)
                  have ve1 := via_cell (h7.right.right.cell 1)
                  have ve2 := via_cell (h7.right.right.cell 2)
                  have ve3 := via_cell (h7.right.right.cell 3)
                  have ve4 := via_cell (h7.right.right.cell 4)
                  have ve5 := via_cell (h7.right.right.cell 5)
                  refine wp_region_via (by kernel_rfl) (by kernel_rfl) ?_
                  repeat (first | go_big_quiet_step ((go_at_call 73; exact Pure.via (HMK.out _ _ (h7.via _)))) | quiet_step ((go_at_call 73; exact Pure.via (HMK.out _ _ (h7.via _)))))
                  refine wpQuiet_nil ?_
                  intro _ hw'
                  obtain ⟨uq, hw''⟩ := hw'
                  subst hw''
                  have h8 := h7.via uq
                  have x8 := x7.below (via_below _ uq)
                  generalize via wc uq = w8 at *
                  clear h7 x7 ve0 ve1 ve2 ve3 ve4 ve5 HMK
                  have h9 := h8
                  unfold wkBlk at h9
                  have k1 : w8.cell? ⟨b, 1, none⟩ = some ((Value.int .i64) (stV c)) := h9.cell 1
                  have f1 := h9.free 1
                  have kl := h9.lt
                  have n1 := h9.ne
                  have n2 := n1.symm
                  obtain ⟨r0, r1, r2, r3, r4, r5, r6, r7, r8⟩ := h9.right.cells9
                  obtain ⟨g0, g1, g2, g3, g4, g5, g6, g7, g8⟩ := h9.right.frees9
                  have rl := h9.right.lt
                  have hA : Has (w8.setCell ⟨b, 1, none⟩ ((Value.int .i64) 2)) (wkBlk b root { c with mark := true, w := v } v ⟨true, true, rg, true, false, fr⟩ * (blk X0 #[Value.bool false, (Value.int .i64) 0, (Value.int .i64) 0, (Value.int .i64) 0, (Value.int .i64) 0, (Value.int .i64) 0, (Value.int .i64) 0, (Value.int .i64) 0, Value.bool false] 106 * (blk EB #[Value.bool true, Value.bool true, (Value.int .i64) rg, Value.bool true, Value.bool false, (Value.int .i64) fr] 51 * (framesAt f s * R)))) := by
                    unfold wkBlk wkCells
                    rw [HST2.out]
                    exact h9.set 1 ((Value.int .i64) 2)
                  clear h8 h9
                  go_wp2_with fail
                  refine ret_via (fun wz => Has wz (blk X0 #[Value.bool false, (Value.int .i64) 0, (Value.int .i64) 0, (Value.int .i64) 0, (Value.int .i64) 0, (Value.int .i64) 0, (Value.int .i64) 0, (Value.int .i64) 0, Value.bool false] 106 * (wkBlk b root { c with mark := true, w := v } v ⟨true, true, rg, true, false, fr⟩ * (blk EB #[Value.bool true, Value.bool true, (Value.int .i64) rg, Value.bool true, Value.bool false, (Value.int .i64) fr] 51 * (framesAt f s * R)))) ∧ Ext W wz) ⟨hA.p2.set9 _ _ _ _ _ _ _ _ _, by (repeat (first | with_reducible assumption | with_reducible exact Ext.refl _ | with_reducible refine Ext.set ?_ _ _ | with_reducible refine Ext.alloc ?_ _ | with_reducible refine Ext.drew ?_ | with_reducible refine Ext.drewN ?_ _ | assumption | exact Ext.refl _ | refine Ext.alloc ?_ _ | refine Ext.set ?_ _ _ | refine Ext.drew ?_ | refine Ext.drewN ?_ _ | refine Ext.below ?_ (by assumption) | refine Ext.trans ?_ (by assumption)))⟩ ?_
                  rintro wz ⟨hz, xz⟩
                  exact bodyPost_ret (results_ct Try.results72 rfl rfl (load_result hz)) rfl ⟨by rw [hy.out]; rfl, by rw [hy.out]; exact walkerAt_shut HM1.out hz.right.p2.right, xz⟩
end Go.Proofs.Ytmfheghbgihdmaa
namespace Go.Proofs.Ytmfheghbgihdmaa
open Go.RowKit
set_option maxRecDepth 100000
theorem Ms.Ok.setW {s : Ms} (h : s.Ok) (k i : Nat) {v : Int} (hv : 0 ≤ v ∧ v < 18446744073709551616) : (s.setW k i v).Ok := ⟨h.inv.setW k i hv, h.small⟩
theorem stepC_ok {s : Ms} (h : s.Ok) (root : Int) (c : Ck) : (stepC s root c).s.Ok := by
  unfold stepC
  split; · exact h
  split; · exact h
  split; · exact h
  split; · exact h
  split; · exact h
  split; · exact h
  split; · exact h
  split; · exact h.setW _ _ (encW_u64 _ _)
  split; · exact h
  exact h
theorem stepC_mark {s : Ms} {root : Int} {c : Ck} (hc : c.Ok) (hon : c.on = true) (hmk : c.mark = true) :
    stepC s root c = if s.has c.t = false then ⟨c, s, Rs.zero, 12⟩
      else if c.word s ≠ c.w then ⟨c.again root, s, Rs.zero, 0⟩
      else c.leafEnd (s.setW c.t.toNat (index c.a.page c.level).toNat (encW (markE (decE c.w c.level) c.a) c.level)) (markE (decE c.w c.level) c.a) := by
  unfold stepC
  rw [if_neg (by rw [hon]; simp)]
  split
  · rfl
  · by_cases hw : c.word s ≠ c.w
    · rw [if_pos ⟨hmk, hw⟩, if_pos hw]
    · rw [if_neg (fun h => hw h.2), if_neg hw]
      have hw : c.word s = c.w := by simpa using hw
      obtain ⟨h1, h2⟩ := hc.leaf hmk
      rw [hw, if_neg (by rw [hc.dec hmk]; simp), if_neg (by rw [h1]; simp), if_neg (by rw [h2]; simp), if_neg (by rw [hc.may hmk]; simp)]
/-- What the program's mark tells is what the document's tells. -/
theorem leafEnd_rs {s : Ms} {c : Ck} (hc : c.Ok) (hmk : c.mark = true) : (c.leafEnd s (markE (decE c.w c.level) c.a)).r = ⟨true, answer (leafMap (decE c.w c.level) c.level c.a.page) c.a, ⟨leafMap (decE c.w c.level) c.level c.a.page, (markE (decE c.w c.level) c.a).dirty⟩⟩ := by
  unfold Ck.leafEnd
  dsimp only
  rw [leafMap_mark c.a (enc_dec (hc.dec hmk)).1 (hc.leaf hmk).2]
set_option maxHeartbeats 8000000 in
theorem stepW (b f : Nat) (root : Int) (c : Ck) (s : Ms) (hs : s.Ok) (hc : c.Ok) (R : HProp) (W : World) (h : Has W (walkerAt b root c * (framesAt f s * R))) :
    Calls Try.prog 45 #[.pointer (some ⟨b, 0, none⟩), .pointer (some ⟨f, 0, none⟩)] W (Res (.tuple #[RsV (stepC s root c).r, (Value.int .i64) (stepC s root c).code]) (walkerAt b root (stepC s root c).c * (framesAt f (stepC s root c).s * R)) W) := by
  obtain ⟨w0, e0, hmk0, h⟩ := walkerAt_open h
  have h1 := h.new #[Value.bool false, (Value.int .i64) 0, (Value.int .i64) 0, (Value.int .i64) 0, (Value.int .i64) 0, (Value.int .i64) 0, (Value.int .i64) 0, (Value.int .i64) 0, Value.bool false] 106
  have x1 := (Ext.refl W).alloc (.cells #[Value.bool false, (Value.int .i64) 0, (Value.int .i64) 0, (Value.int .i64) 0, (Value.int .i64) 0, (Value.int .i64) 0, (Value.int .i64) 0, (Value.int .i64) 0, Value.bool false] 106)
  have hb := h
  unfold wkBlk at hb
  have k1 : W.cell? ⟨b, 1, none⟩ = some ((Value.int .i64) (stV c)) := hb.cell 1
  have kl := hb.lt
  clear hb
  cases hon : c.on with
  | false =>
    have hy := Lib.hid (show stepC s root c = ⟨c, s, Rs.zero, 9⟩ by unfold stepC; rw [if_pos hon])
    have hst : stV c = 0 := by unfold stV; rw [if_neg (by rw [hon]; simp)]
    rw [hst] at k1
    have HM := Lib.hid hmk0
    clear hon hst hmk0 hs hc h
    obtain ⟨r0, r1, r2, r3, r4, r5, r6, r7, r8⟩ := h1.cells9
    obtain ⟨g0, g1, g2, g3, g4, g5, g6, g7, g8⟩ := h1.frees9
    have rl := h1.lt
    go_enter Try.func45, Try.ntmps45
    go_wp2_with fail
    refine ret_via (fun wz => Has wz (blk W.heap.size #[Value.bool false, (Value.int .i64) 0, (Value.int .i64) 0, (Value.int .i64) 0, (Value.int .i64) 0, (Value.int .i64) 0, (Value.int .i64) 0, (Value.int .i64) 0, Value.bool false] 106 * (wkBlk b root c w0 e0 * (framesAt f s * R))) ∧ Ext W wz) ⟨h1, by (repeat (first | with_reducible assumption | with_reducible exact Ext.refl _ | with_reducible refine Ext.set ?_ _ _ | with_reducible refine Ext.alloc ?_ _ | with_reducible refine Ext.drew ?_ | with_reducible refine Ext.drewN ?_ _ | assumption | exact Ext.refl _ | refine Ext.alloc ?_ _ | refine Ext.set ?_ _ _ | refine Ext.drew ?_ | refine Ext.drewN ?_ _ | refine Ext.below ?_ (by assumption) | refine Ext.trans ?_ (by assumption)))⟩ ?_
    rintro wz ⟨hz, xz⟩
    exact bodyPost_ret (results_ct Try.results45 rfl rfl (load_result hz)) rfl ⟨by rw [hy.out]; rfl, by rw [hy.out]; exact walkerAt_shut HM.out hz.right, xz⟩
  | true =>
    cases hmk : c.mark with
    | false =>
      have HR := Lib.hid (fun R X h => readW b f root c s hs hc hon hmk w0 e0 R X h)
      have hst : stV c = 1 := by unfold stV; rw [if_pos hon, if_neg (by rw [hmk]; simp)]
      rw [hst] at k1
      have h2 : Has _ (wkBlk b root c w0 e0 * (framesAt f s * (blk W.heap.size #[Value.bool false, (Value.int .i64) 0, (Value.int .i64) 0, (Value.int .i64) 0, (Value.int .i64) 0, (Value.int .i64) 0, (Value.int .i64) 0, (Value.int .i64) 0, Value.bool false] 106 * R))) := h1.eq (by ac_rfl)
      clear hon hmk hst hmk0 hs hc h h1
      generalize stepC s root c = r at *
      go_enter Try.func45, Try.ntmps45
      go_wp2_with fail
      refine (HR.out _ _ h2).mono ?_; rintro e2 w3 ⟨rfl, h3, x3⟩
      have h4 : Has w3 (blk W.heap.size #[Value.bool false, (Value.int .i64) 0, (Value.int .i64) 0, (Value.int .i64) 0, (Value.int .i64) 0, (Value.int .i64) 0, (Value.int .i64) 0, (Value.int .i64) 0, Value.bool false] 106 * (walkerAt b root r.c * (framesAt f r.s * R))) := h3.eq (by ac_rfl)
      have x4 := x1.trans x3
      clear h2 h3 x1 x3 HR k1 kl
      obtain ⟨r0, r1, r2, r3, r4, r5, r6, r7, r8⟩ := h4.cells9
      obtain ⟨g0, g1, g2, g3, g4, g5, g6, g7, g8⟩ := h4.frees9
      have rl := h4.lt
      go_wp2_with fail
      refine ret_via (fun wz => Has wz (blk W.heap.size #[Value.bool r.r.fin, (Value.int .i64) r.r.an.fin, (Value.int .i64) r.r.an.frame, (Value.int .i64) r.r.an.rights, (Value.int .i64) r.r.ln.m.page, (Value.int .i64) r.r.ln.m.size, (Value.int .i64) r.r.ln.m.frame, (Value.int .i64) r.r.ln.m.rights, Value.bool r.r.ln.dirty] 106 * (walkerAt b root r.c * (framesAt f r.s * R))) ∧ Ext W wz) ⟨h4.set9 _ _ _ _ _ _ _ _ _, by (repeat (first | with_reducible assumption | with_reducible exact Ext.refl _ | with_reducible refine Ext.set ?_ _ _ | with_reducible refine Ext.alloc ?_ _ | with_reducible refine Ext.drew ?_ | with_reducible refine Ext.drewN ?_ _ | assumption | exact Ext.refl _ | refine Ext.alloc ?_ _ | refine Ext.set ?_ _ _ | refine Ext.drew ?_ | refine Ext.drewN ?_ _ | refine Ext.below ?_ (by assumption) | refine Ext.trans ?_ (by assumption)))⟩ ?_
      rintro wz ⟨hz, xz⟩
      exact bodyPost_ret (results_ct Try.results45 rfl rfl (load_result hz)) rfl ⟨rfl, hz.right, xz⟩
    | true =>
      obtain ⟨rfl, rfl⟩ := hmk0 hmk
      have hstep := stepC_mark (s := s) (root := root) hc hon hmk
      have hst : stV c = 2 := by unfold stV; rw [if_pos hon, if_pos hmk]
      rw [hst] at k1
      have hp := check_has (hc.acc hon)
      have HI := Lib.hid (fun X => index_any c.a.page c.level X)
      have hhw := hasW_index (s := s) (t := c.t) hp (hc.l0 hon) (hc.l3 hon)
      have hword : c.word s = s.wd c.t.toNat (index c.a.page c.level).toNat := rfl
      have HM := Lib.hid (show Mk c c.w (decE c.w c.level) from hmk0)
      have HRS := Lib.hid (fun s' => leafEnd_rs (s := s') hc hmk)
      have HMK := Lib.hid (fun R X h => markedW b root c c.w (decE c.w c.level) R X h)
      have HDN := Lib.hid (fun R X h => doneW b root c c.w (decE c.w c.level) R X h)
      have HEN := Lib.hid (fun X => encode_any (markE (decE c.w c.level) c.a) c.level X)
      have h1' : Has _ (wkBlk b root c c.w (decE c.w c.level) * (blk W.heap.size #[Value.bool false, (Value.int .i64) 0, (Value.int .i64) 0, (Value.int .i64) 0, (Value.int .i64) 0, (Value.int .i64) 0, (Value.int .i64) 0, (Value.int .i64) 0, Value.bool false] 106 * (framesAt f s * R))) := h1.p2
      clear h1
      have h1 := h1'
      clear h1' h
      cases ht : s.has c.t with
      | false =>
        have hy := Lib.hid (hstep.trans (if_pos ht))
        have hsb : swapB s c.t (index c.a.page c.level) c.w = false := by unfold swapB; rw [hhw, ht]; rfl
        have HSW := Lib.hid (fun R X h => swapF f s c.t (index c.a.page c.level) (encW (markE (decE c.w c.level) c.a) c.level) c.w R X h)
        have hss : swapS s c.t (index c.a.page c.level) c.w (encW (markE (decE c.w c.level) c.a) c.level) = s := by unfold swapS; rw [hsb]; rfl
        rw [hsb, hss] at HSW
        have HTK := Lib.hid (fun R X h => takenF f s c.t R X h)
        rw [ht] at HTK
        clear hstep ht hsb hss hword hhw hp hon hmk hst hmk0 hs hc HRS HDN
        generalize encW (markE (decE c.w c.level) c.a) c.level = x at *
        generalize markE (decE c.w c.level) c.a = me at *
        generalize decE c.w c.level = e0 at *
        generalize index c.a.page c.level = ix at *
        go_enter Try.func45, Try.ntmps45
        go_upto_region 5 with fail
        generalize W.alloc (.cells #[Value.bool false, (Value.int .i64) 0, (Value.int .i64) 0, (Value.int .i64) 0, (Value.int .i64) 0, (Value.int .i64) 0, (Value.int .i64) 0, (Value.int .i64) 0, Value.bool false] 106) = W1 at *
        generalize W.heap.size = X0 at *
        clear k1 kl
        have hb := h1
        unfold wkBlk at hb
        have v5 := via_cell (hb.cell 5)
        clear hb
        refine wp_region_via (by kernel_rfl) (by kernel_rfl) ?_
        repeat (first | go_big_quiet_step ((first | (go_at_call 73; exact Pure.via (HMK.out _ _ (h1.via _))) | (go_at_call 67; exact Pure.via (HEN.out _)))) | quiet_step ((first | (go_at_call 73; exact Pure.via (HMK.out _ _ (h1.via _))) | (go_at_call 67; exact Pure.via (HEN.out _)))))
        refine wpQuiet_nil ?_
        intro _ hw'
        obtain ⟨uq, hw''⟩ := hw'
        subst hw''
        have h2 := h1.via uq
        have x2 := x1.below (via_below _ uq)
        generalize via W1 uq = W2 at *
        clear h1 x1 v5 HMK HEN
        go_upto_region 6 with fail
        have hb := h2
        unfold wkBlk at hb
        have k2 : W2.cell? ⟨b, 2, none⟩ = some ((Value.int .i64) c.a.page) := hb.cell 2
        have k5 : W2.cell? ⟨b, 5, none⟩ = some ((Value.int .i64) c.level) := hb.cell 5
        have k6 : W2.cell? ⟨b, 6, none⟩ = some ((Value.int .i64) c.t) := hb.cell 6
        have k7 : W2.cell? ⟨b, 7, none⟩ = some ((Value.int .u64) c.w) := hb.cell 7
        have kl := hb.lt
        clear hb
        have HK := Lib.hid (fun (w' : World) (P : HProp) (h : Has w' (wkBlk b root c c.w e0 * P)) => (by
          unfold wkBlk at h
          exact ⟨h.cell 2, h.cell 5, h.cell 6, h.cell 7⟩ : w'.cell? ⟨b, 2, none⟩ = some ((Value.int .i64) c.a.page) ∧ w'.cell? ⟨b, 5, none⟩ = some ((Value.int .i64) c.level) ∧ w'.cell? ⟨b, 6, none⟩ = some ((Value.int .i64) c.t) ∧ w'.cell? ⟨b, 7, none⟩ = some ((Value.int .u64) c.w)))
        have h3 : Has W2.drew (framesAt f s * (wkBlk b root c c.w e0 * (blk X0 #[Value.bool false, (Value.int .i64) 0, (Value.int .i64) 0, (Value.int .i64) 0, (Value.int .i64) 0, (Value.int .i64) 0, (Value.int .i64) 0, (Value.int .i64) 0, Value.bool false] 106 * R))) := Has.drew (h2.eq (by ac_rfl))
        go_region_held3 (fun w' => w'.cell? ⟨b, 2, none⟩ = some ((Value.int .i64) c.a.page) ∧ w'.cell? ⟨b, 5, none⟩ = some ((Value.int .i64) c.level) ∧ w'.cell? ⟨b, 6, none⟩ = some ((Value.int .i64) c.t) ∧ w'.cell? ⟨b, 7, none⟩ = some ((Value.int .u64) c.w)) (first | (with_reducible exact HK.out _ _ h4.right) | go_keep) (first | (go_at_call 62; (with_reducible refine (HI.out _).mono ?_); rintro e2 w3 ⟨rfl, rfl⟩) | (go_at_call 74; (with_reducible refine (HSW.out _ _ h3).mono ?_); rintro e2 w4 ⟨rfl, h4, x4⟩))
        have x5 := x2.drew.trans x4
        clear h2 h3 x2 x4 k2 k5 k6 k7 kl HK HI HSW
        have h5 := h4.right
        unfold wkBlk at h5
        have k6 : w4.cell? ⟨b, 6, none⟩ = some ((Value.int .i64) c.t) := h5.cell 6
        have kl := h5.lt
        clear h5
        go_wp2_with fail
        refine (HTK.out _ _ h4).mono ?_; rintro e2 w6 ⟨rfl, rfl⟩
        have h7 : Has w4 (blk X0 #[Value.bool false, (Value.int .i64) 0, (Value.int .i64) 0, (Value.int .i64) 0, (Value.int .i64) 0, (Value.int .i64) 0, (Value.int .i64) 0, (Value.int .i64) 0, Value.bool false] 106 * (wkBlk b root c c.w e0 * (framesAt f s * R))) := h4.eq (by ac_rfl)
        obtain ⟨r0, r1, r2, r3, r4, r5, r6, r7, r8⟩ := h7.cells9
        obtain ⟨g0, g1, g2, g3, g4, g5, g6, g7, g8⟩ := h7.frees9
        have rl := h7.lt
        clear h4 k6 kl HTK
        go_wp2_with fail
        refine ret_via (fun wz => Has wz (blk X0 #[Value.bool false, (Value.int .i64) 0, (Value.int .i64) 0, (Value.int .i64) 0, (Value.int .i64) 0, (Value.int .i64) 0, (Value.int .i64) 0, (Value.int .i64) 0, Value.bool false] 106 * (wkBlk b root c c.w e0 * (framesAt f s * R))) ∧ Ext W wz) ⟨h7.set9 _ _ _ _ _ _ _ _ _, by (repeat (first | with_reducible assumption | with_reducible exact Ext.refl _ | with_reducible refine Ext.set ?_ _ _ | with_reducible refine Ext.alloc ?_ _ | with_reducible refine Ext.drew ?_ | with_reducible refine Ext.drewN ?_ _ | assumption | exact Ext.refl _ | refine Ext.alloc ?_ _ | refine Ext.set ?_ _ _ | refine Ext.drew ?_ | refine Ext.drewN ?_ _ | refine Ext.below ?_ (by assumption) | refine Ext.trans ?_ (by assumption)))⟩ ?_
        rintro wz ⟨hz, xz⟩
        exact bodyPost_ret (results_ct Try.results45 rfl rfl (load_result hz)) rfl ⟨by rw [hy.out]; rfl, by rw [hy.out]; exact walkerAt_shut HM.out hz.right, xz⟩
      | true =>
        rw [if_neg (by rw [ht]; simp)] at hstep
        by_cases hw : c.word s = c.w
        case neg =>
          have hy := Lib.hid (hstep.trans (if_pos hw))
          have hsb : swapB s c.t (index c.a.page c.level) c.w = false := by unfold swapB; rw [hhw, ht, ← hword]; simpa using hw
          have HSW := Lib.hid (fun R X h => swapF f s c.t (index c.a.page c.level) (encW (markE (decE c.w c.level) c.a) c.level) c.w R X h)
          have hss : swapS s c.t (index c.a.page c.level) c.w (encW (markE (decE c.w c.level) c.a) c.level) = s := by unfold swapS; rw [hsb]; rfl
          rw [hsb, hss] at HSW
          have HTK := Lib.hid (fun R X h => takenF f s c.t R X h)
          rw [ht] at HTK
          have HAG := Lib.hid (fun R X h => againW b root c R X h)
          clear hstep ht hsb hss hword hhw hp hon hmk hst hmk0 hs hc HRS HDN hw
          generalize encW (markE (decE c.w c.level) c.a) c.level = x at *
          generalize markE (decE c.w c.level) c.a = me at *
          generalize decE c.w c.level = e0 at *
          generalize index c.a.page c.level = ix at *
          go_enter Try.func45, Try.ntmps45
          go_upto_region 5 with fail
          generalize W.alloc (.cells #[Value.bool false, (Value.int .i64) 0, (Value.int .i64) 0, (Value.int .i64) 0, (Value.int .i64) 0, (Value.int .i64) 0, (Value.int .i64) 0, (Value.int .i64) 0, Value.bool false] 106) = W1 at *
          generalize W.heap.size = X0 at *
          clear k1 kl
          have hb := h1
          unfold wkBlk at hb
          have v5 := via_cell (hb.cell 5)
          clear hb
          refine wp_region_via (by kernel_rfl) (by kernel_rfl) ?_
          repeat (first | go_big_quiet_step ((first | (go_at_call 73; exact Pure.via (HMK.out _ _ (h1.via _))) | (go_at_call 67; exact Pure.via (HEN.out _)))) | quiet_step ((first | (go_at_call 73; exact Pure.via (HMK.out _ _ (h1.via _))) | (go_at_call 67; exact Pure.via (HEN.out _)))))
          refine wpQuiet_nil ?_
          intro _ hw'
          obtain ⟨uq, hw''⟩ := hw'
          subst hw''
          have h2 := h1.via uq
          have x2 := x1.below (via_below _ uq)
          generalize via W1 uq = W2 at *
          clear h1 x1 v5 HMK HEN
          go_upto_region 6 with fail
          have hb := h2
          unfold wkBlk at hb
          have k2 : W2.cell? ⟨b, 2, none⟩ = some ((Value.int .i64) c.a.page) := hb.cell 2
          have k5 : W2.cell? ⟨b, 5, none⟩ = some ((Value.int .i64) c.level) := hb.cell 5
          have k6 : W2.cell? ⟨b, 6, none⟩ = some ((Value.int .i64) c.t) := hb.cell 6
          have k7 : W2.cell? ⟨b, 7, none⟩ = some ((Value.int .u64) c.w) := hb.cell 7
          have kl := hb.lt
          clear hb
          have HK := Lib.hid (fun (w' : World) (P : HProp) (h : Has w' (wkBlk b root c c.w e0 * P)) => (by
            unfold wkBlk at h
            exact ⟨h.cell 2, h.cell 5, h.cell 6, h.cell 7⟩ : w'.cell? ⟨b, 2, none⟩ = some ((Value.int .i64) c.a.page) ∧ w'.cell? ⟨b, 5, none⟩ = some ((Value.int .i64) c.level) ∧ w'.cell? ⟨b, 6, none⟩ = some ((Value.int .i64) c.t) ∧ w'.cell? ⟨b, 7, none⟩ = some ((Value.int .u64) c.w)))
          have h3 : Has W2.drew (framesAt f s * (wkBlk b root c c.w e0 * (blk X0 #[Value.bool false, (Value.int .i64) 0, (Value.int .i64) 0, (Value.int .i64) 0, (Value.int .i64) 0, (Value.int .i64) 0, (Value.int .i64) 0, (Value.int .i64) 0, Value.bool false] 106 * R))) := Has.drew (h2.eq (by ac_rfl))
          go_region_held3 (fun w' => w'.cell? ⟨b, 2, none⟩ = some ((Value.int .i64) c.a.page) ∧ w'.cell? ⟨b, 5, none⟩ = some ((Value.int .i64) c.level) ∧ w'.cell? ⟨b, 6, none⟩ = some ((Value.int .i64) c.t) ∧ w'.cell? ⟨b, 7, none⟩ = some ((Value.int .u64) c.w)) (first | (with_reducible exact HK.out _ _ h4.right) | go_keep) (first | (go_at_call 62; (with_reducible refine (HI.out _).mono ?_); rintro e2 w3 ⟨rfl, rfl⟩) | (go_at_call 74; (with_reducible refine (HSW.out _ _ h3).mono ?_); rintro e2 w4 ⟨rfl, h4, x4⟩))
          have x5 := x2.drew.trans x4
          clear h2 h3 x2 x4 k2 k5 k6 k7 kl HK HI HSW
          have h5 := h4.right
          unfold wkBlk at h5
          have k6 : w4.cell? ⟨b, 6, none⟩ = some ((Value.int .i64) c.t) := h5.cell 6
          have kl := h5.lt
          clear h5
          go_wp2_with fail
          refine (HTK.out _ _ h4).mono ?_; rintro e2 w6 ⟨rfl, rfl⟩
          go_wp2_with fail
          refine (HAG.out _ _ (walkerAt_shut HM.out h4.p2)).mono ?_; rintro e2 w6 ⟨rfl, h6, x6⟩
          have h7 : Has w6 (blk X0 #[Value.bool false, (Value.int .i64) 0, (Value.int .i64) 0, (Value.int .i64) 0, (Value.int .i64) 0, (Value.int .i64) 0, (Value.int .i64) 0, (Value.int .i64) 0, Value.bool false] 106 * (walkerAt b root (c.again root) * (framesAt f s * R))) := h6.eq (by ac_rfl)
          have x7 := x5.trans x6
          obtain ⟨r0, r1, r2, r3, r4, r5, r6, r7, r8⟩ := h7.cells9
          obtain ⟨g0, g1, g2, g3, g4, g5, g6, g7, g8⟩ := h7.frees9
          have rl := h7.lt
          clear h4 h6 k6 kl HTK x5 x6 HAG
          go_wp2_with fail
          refine ret_via (fun wz => Has wz (blk X0 #[Value.bool false, (Value.int .i64) 0, (Value.int .i64) 0, (Value.int .i64) 0, (Value.int .i64) 0, (Value.int .i64) 0, (Value.int .i64) 0, (Value.int .i64) 0, Value.bool false] 106 * (walkerAt b root (c.again root) * (framesAt f s * R))) ∧ Ext W wz) ⟨h7.set9 _ _ _ _ _ _ _ _ _, by (repeat (first | with_reducible assumption | with_reducible exact Ext.refl _ | with_reducible refine Ext.set ?_ _ _ | with_reducible refine Ext.alloc ?_ _ | with_reducible refine Ext.drew ?_ | with_reducible refine Ext.drewN ?_ _ | assumption | exact Ext.refl _ | refine Ext.alloc ?_ _ | refine Ext.set ?_ _ _ | refine Ext.drew ?_ | refine Ext.drewN ?_ _ | refine Ext.below ?_ (by assumption) | refine Ext.trans ?_ (by assumption)))⟩ ?_
          rintro wz ⟨hz, xz⟩
          exact bodyPost_ret (results_ct Try.results45 rfl rfl (load_result hz)) rfl ⟨by rw [hy.out]; rfl, by rw [hy.out]; exact hz.right, xz⟩
        case pos =>
          have hy := Lib.hid (hstep.trans (if_neg (fun h => h hw)))
          have hsb : swapB s c.t (index c.a.page c.level) c.w = true := by unfold swapB; rw [hhw, ht, ← hword]; simpa using hw
          have HSW := Lib.hid (fun R X h => swapF f s c.t (index c.a.page c.level) (encW (markE (decE c.w c.level) c.a) c.level) c.w R X h)
          have hss : swapS s c.t (index c.a.page c.level) c.w (encW (markE (decE c.w c.level) c.a) c.level) = s.setW c.t.toNat (index c.a.page c.level).toNat (encW (markE (decE c.w c.level) c.a) c.level) := by unfold swapS; rw [hsb]; rfl
          rw [hsb, hss] at HSW
          have HRS' := Lib.hid (HRS.out (s.setW c.t.toNat (index c.a.page c.level).toNat (encW (markE (decE c.w c.level) c.a) c.level)))
          clear HRS
          have HR0 : Hid ((stepC s root c).r = ⟨true, answer (leafMap (decE c.w c.level) c.level c.a.page) c.a, ⟨leafMap (decE c.w c.level) c.level c.a.page, (markE (decE c.w c.level) c.a).dirty⟩⟩ ∧ (stepC s root c).c = c.idle ∧ (stepC s root c).code = 0 ∧ (stepC s root c).s = s.setW c.t.toNat (index c.a.page c.level).toNat (encW (markE (decE c.w c.level) c.a) c.level)) := Lib.hid (by
            rw [hy.out]
            exact ⟨HRS'.out, rfl, rfl, rfl⟩)
          clear hstep ht hsb hss hword hhw hp hon hmk hst hmk0 hs hc HRS' hw hy
          generalize s.setW c.t.toNat (index c.a.page c.level).toNat (encW (markE (decE c.w c.level) c.a) c.level) = s' at *
          generalize encW (markE (decE c.w c.level) c.a) c.level = x at *
          generalize answer (leafMap (decE c.w c.level) c.level c.a.page) c.a = an at *
          generalize leafMap (decE c.w c.level) c.level c.a.page = lm at *
          generalize markE (decE c.w c.level) c.a = me at *
          generalize decE c.w c.level = e0 at *
          generalize index c.a.page c.level = ix at *
          go_enter Try.func45, Try.ntmps45
          go_upto_region 5 with fail
          generalize W.alloc (.cells #[Value.bool false, (Value.int .i64) 0, (Value.int .i64) 0, (Value.int .i64) 0, (Value.int .i64) 0, (Value.int .i64) 0, (Value.int .i64) 0, (Value.int .i64) 0, Value.bool false] 106) = W1 at *
          generalize W.heap.size = X0 at *
          clear k1 kl
          have hb := h1
          unfold wkBlk at hb
          have v5 := via_cell (hb.cell 5)
          clear hb
          refine wp_region_via (by kernel_rfl) (by kernel_rfl) ?_
          repeat (first | go_big_quiet_step ((first | (go_at_call 73; exact Pure.via (HMK.out _ _ (h1.via _))) | (go_at_call 67; exact Pure.via (HEN.out _)))) | quiet_step ((first | (go_at_call 73; exact Pure.via (HMK.out _ _ (h1.via _))) | (go_at_call 67; exact Pure.via (HEN.out _)))))
          refine wpQuiet_nil ?_
          intro _ hw'
          obtain ⟨uq, hw''⟩ := hw'
          subst hw''
          have h2 := h1.via uq
          have x2 := x1.below (via_below _ uq)
          generalize via W1 uq = W2 at *
          clear h1 x1 v5 HMK HEN
          go_upto_region 6 with fail
          have hb := h2
          unfold wkBlk at hb
          have k2 : W2.cell? ⟨b, 2, none⟩ = some ((Value.int .i64) c.a.page) := hb.cell 2
          have k5 : W2.cell? ⟨b, 5, none⟩ = some ((Value.int .i64) c.level) := hb.cell 5
          have k6 : W2.cell? ⟨b, 6, none⟩ = some ((Value.int .i64) c.t) := hb.cell 6
          have k7 : W2.cell? ⟨b, 7, none⟩ = some ((Value.int .u64) c.w) := hb.cell 7
          have kl := hb.lt
          clear hb
          have HK := Lib.hid (fun (w' : World) (P : HProp) (h : Has w' (wkBlk b root c c.w e0 * P)) => (by
            unfold wkBlk at h
            exact ⟨h.cell 2, h.cell 5, h.cell 6, h.cell 7⟩ : w'.cell? ⟨b, 2, none⟩ = some ((Value.int .i64) c.a.page) ∧ w'.cell? ⟨b, 5, none⟩ = some ((Value.int .i64) c.level) ∧ w'.cell? ⟨b, 6, none⟩ = some ((Value.int .i64) c.t) ∧ w'.cell? ⟨b, 7, none⟩ = some ((Value.int .u64) c.w)))
          have h3 : Has W2.drew (framesAt f s * (wkBlk b root c c.w e0 * (blk X0 #[Value.bool false, (Value.int .i64) 0, (Value.int .i64) 0, (Value.int .i64) 0, (Value.int .i64) 0, (Value.int .i64) 0, (Value.int .i64) 0, (Value.int .i64) 0, Value.bool false] 106 * R))) := Has.drew (h2.eq (by ac_rfl))
          go_region_held3 (fun w' => w'.cell? ⟨b, 2, none⟩ = some ((Value.int .i64) c.a.page) ∧ w'.cell? ⟨b, 5, none⟩ = some ((Value.int .i64) c.level) ∧ w'.cell? ⟨b, 6, none⟩ = some ((Value.int .i64) c.t) ∧ w'.cell? ⟨b, 7, none⟩ = some ((Value.int .u64) c.w)) (first | (with_reducible exact HK.out _ _ h4.right) | go_keep) (first | (go_at_call 62; (with_reducible refine (HI.out _).mono ?_); rintro e2 w3 ⟨rfl, rfl⟩) | (go_at_call 74; (with_reducible refine (HSW.out _ _ h3).mono ?_); rintro e2 w4 ⟨rfl, h4, x4⟩))
          have x5 := x2.drew.trans x4
          clear h2 h3 x2 x4 k2 k5 k6 k7 kl HK HI HSW
          go_wp2_with fail
          refine (HDN.out _ _ h4.p2).mono ?_; rintro e2 w6 ⟨rfl, h6, x6⟩
          have h7 : Has w6 (blk X0 #[Value.bool false, (Value.int .i64) 0, (Value.int .i64) 0, (Value.int .i64) 0, (Value.int .i64) 0, (Value.int .i64) 0, (Value.int .i64) 0, (Value.int .i64) 0, Value.bool false] 106 * (wkBlk b root c.idle c.w e0 * (framesAt f s' * R))) := h6.eq (by ac_rfl)
          have x7 := x5.trans x6
          obtain ⟨r0, r1, r2, r3, r4, r5, r6, r7, r8⟩ := h7.cells9
          obtain ⟨g0, g1, g2, g3, g4, g5, g6, g7, g8⟩ := h7.frees9
          have rl := h7.lt
          clear h4 h6 x5 x6 HDN
          go_wp2_with fail
          refine ret_via (fun wz => Has wz (blk X0 #[Value.bool true, (Value.int .i64) an.fin, (Value.int .i64) an.frame, (Value.int .i64) an.rights, (Value.int .i64) lm.page, (Value.int .i64) lm.size, (Value.int .i64) lm.frame, (Value.int .i64) lm.rights, Value.bool me.dirty] 106 * (wkBlk b root c.idle c.w e0 * (framesAt f s' * R))) ∧ Ext W wz) ⟨h7.set9 _ _ _ _ _ _ _ _ _, by (repeat (first | with_reducible assumption | with_reducible exact Ext.refl _ | with_reducible refine Ext.set ?_ _ _ | with_reducible refine Ext.alloc ?_ _ | with_reducible refine Ext.drew ?_ | with_reducible refine Ext.drewN ?_ _ | assumption | exact Ext.refl _ | refine Ext.alloc ?_ _ | refine Ext.set ?_ _ _ | refine Ext.drew ?_ | refine Ext.drewN ?_ _ | refine Ext.below ?_ (by assumption) | refine Ext.trans ?_ (by assumption)))⟩ ?_
          rintro wz ⟨hz, xz⟩
          exact bodyPost_ret (results_ct Try.results45 rfl rfl (load_result hz)) rfl ⟨by rw [HR0.out.1, HR0.out.2.2.1]; rfl, by rw [HR0.out.2.1, HR0.out.2.2.2]; exact walkerAt_shut (Mk.idle _ _ _) hz.right, xz⟩
end Go.Proofs.Ytmfheghbgihdmaa
