/- Contract of walker's Step, against stepC. -/
import Derived.Test.YtndhgomikpokpaaWkr3
namespace Go.Proofs.Ytndhgomikpokpaa
open Go.RowKit
set_option maxRecDepth 100000

theorem Ms.Ok.setW {s : Ms} (h : s.Ok) (k i : Nat) {v : Int} (hv : 0 ≤ v ∧ v < 18446744073709551616) : (s.setW k i v).Ok := ⟨h.inv.setW k i hv, h.small⟩
theorem endS_ok {s : Ms} (h : s.Ok) (y : Wy) (a : Ac) : (endS s y a).Ok := by
  unfold endS
  split
  · exact h.setW _ _ (encW_u64 _ _)
  · exact h
theorem stepC_ok {s : Ms} (h : s.Ok) (root : Int) (c : Ck) : (stepC s root c).s.Ok := by
  unfold stepC
  split; · exact h
  split; · exact h
  split; · exact h
  split; · exact h
  split; · exact h
  split; · exact h
  split; · exact h
  split; · exact h.setW _ _ (encW_u64 _ _)
  split; · exact h
  exact h
theorem stepC_mark {s : Ms} {root : Int} {c : Ck} (hc : c.Ok) (hon : c.on = true) (hmk : c.mark = true) :
    stepC s root c = if s.has c.t = false then ⟨c, s, Rs.zero, 12⟩
      else if c.word s ≠ c.w then ⟨c.again root, s, Rs.zero, 0⟩
      else c.leafEnd (s.setW c.t.toNat (index c.a.page c.level).toNat (encW (markE (decE c.w c.level) c.a) c.level)) (markE (decE c.w c.level) c.a) := by
  unfold stepC
  rw [if_neg (by rw [hon]; simp)]
  split
  · rfl
  · by_cases hw : c.word s ≠ c.w
    · rw [if_pos ⟨hmk, hw⟩, if_pos hw]
    · rw [if_neg (fun h => hw h.2), if_neg hw]
      have hw : c.word s = c.w := by simpa using hw
      obtain ⟨h1, h2⟩ := hc.leaf hmk
      rw [hw, if_neg (by rw [hc.dec hmk]; simp), if_neg (by rw [h1]; simp), if_neg (by rw [h2]; simp), if_neg (by rw [hc.may hmk]; simp)]
/-- What the program's mark tells is what the document's tells. -/
theorem leafEnd_rs {s : Ms} {c : Ck} (hc : c.Ok) (hmk : c.mark = true) : (c.leafEnd s (markE (decE c.w c.level) c.a)).r = ⟨true, answer (leafMap (decE c.w c.level) c.level c.a.page) c.a, ⟨leafMap (decE c.w c.level) c.level c.a.page, (markE (decE c.w c.level) c.a).dirty⟩⟩ := by
  unfold Ck.leafEnd
  dsimp only
  rw [leafMap_mark c.a (enc_dec (hc.dec hmk)).1 (hc.leaf hmk).2]
set_option maxHeartbeats 8000000 in
theorem stepW (b f : Nat) (root : Int) (c : Ck) (s : Ms) (hs : s.Ok) (hc : c.Ok) (R : HProp) (W : World) (h : Has W (walkerAt b root c * (framesAt f s * R))) :
    Calls Try.prog 25 #[.pointer (some ⟨b, 0, none⟩), .pointer (some ⟨f, 0, none⟩)] W (Res (.tuple #[RsV (stepC s root c).r, (Value.int .i64) (stepC s root c).code]) (walkerAt b root (stepC s root c).c * (framesAt f (stepC s root c).s * R)) W) := by
  obtain ⟨w0, e0, hmk0, h⟩ := walkerAt_open h
  have h1 := h.new #[Value.bool false, (Value.int .i64) 0, (Value.int .i64) 0, (Value.int .i64) 0, (Value.int .i64) 0, (Value.int .i64) 0, (Value.int .i64) 0, (Value.int .i64) 0, Value.bool false] 53
  have x1 := (Ext.refl W).alloc (.cells #[Value.bool false, (Value.int .i64) 0, (Value.int .i64) 0, (Value.int .i64) 0, (Value.int .i64) 0, (Value.int .i64) 0, (Value.int .i64) 0, (Value.int .i64) 0, Value.bool false] 53)
  have hb := h
  unfold wkBlk at hb
  have k1 : W.cell? ⟨b, 1, none⟩ = some ((Value.int .i64) (stV c)) := hb.cell 1
  have kl := hb.lt
  clear hb
  cases hon : c.on with
  | false =>
    have hy := Lib.hid (show stepC s root c = ⟨c, s, Rs.zero, 9⟩ by unfold stepC; rw [if_pos hon])
    have hst : stV c = 0 := by unfold stV; rw [if_neg (by rw [hon]; simp)]
    rw [hst] at k1
    have HM := Lib.hid hmk0
    clear hon hst hmk0 hs hc h
    obtain ⟨r0, r1, r2, r3, r4, r5, r6, r7, r8⟩ := h1.cells9
    obtain ⟨g0, g1, g2, g3, g4, g5, g6, g7, g8⟩ := h1.frees9
    have rl := h1.lt
    go_enter Try.func25, Try.ntmps25
    go_wp2_with fail
    refine ret_via (fun wz => Has wz (blk W.heap.size #[Value.bool false, (Value.int .i64) 0, (Value.int .i64) 0, (Value.int .i64) 0, (Value.int .i64) 0, (Value.int .i64) 0, (Value.int .i64) 0, (Value.int .i64) 0, Value.bool false] 53 * (wkBlk b root c w0 e0 * (framesAt f s * R))) ∧ Ext W wz) ⟨h1, by (repeat (first | with_reducible assumption | with_reducible exact Ext.refl _ | with_reducible refine Ext.set ?_ _ _ | with_reducible refine Ext.alloc ?_ _ | with_reducible refine Ext.drew ?_ | with_reducible refine Ext.drewN ?_ _ | assumption | exact Ext.refl _ | refine Ext.alloc ?_ _ | refine Ext.set ?_ _ _ | refine Ext.drew ?_ | refine Ext.drewN ?_ _ | refine Ext.below ?_ (by assumption) | refine Ext.trans ?_ (by assumption)))⟩ ?_
    rintro wz ⟨hz, xz⟩
    exact bodyPost_ret (results_ct Try.results25 rfl rfl (load_result hz)) rfl ⟨by rw [hy.out]; rfl, by rw [hy.out]; exact walkerAt_shut HM.out hz.right, xz⟩
  | true =>
    cases hmk : c.mark with
    | false =>
      have HR := Lib.hid (fun R X h => readW b f root c s hs hc hon hmk w0 e0 R X h)
      have hst : stV c = 1 := by unfold stV; rw [if_pos hon, if_neg (by rw [hmk]; simp)]
      rw [hst] at k1
      have h2 : Has _ (wkBlk b root c w0 e0 * (framesAt f s * (blk W.heap.size #[Value.bool false, (Value.int .i64) 0, (Value.int .i64) 0, (Value.int .i64) 0, (Value.int .i64) 0, (Value.int .i64) 0, (Value.int .i64) 0, (Value.int .i64) 0, Value.bool false] 53 * R))) := h1.eq (by ac_rfl)
      clear hon hmk hst hmk0 hs hc h h1
      generalize stepC s root c = r at *
      go_enter Try.func25, Try.ntmps25
      go_wp2_with fail
      refine (HR.out _ _ h2).mono ?_; rintro e2 w3 ⟨rfl, h3, x3⟩
      have h4 : Has w3 (blk W.heap.size #[Value.bool false, (Value.int .i64) 0, (Value.int .i64) 0, (Value.int .i64) 0, (Value.int .i64) 0, (Value.int .i64) 0, (Value.int .i64) 0, (Value.int .i64) 0, Value.bool false] 53 * (walkerAt b root r.c * (framesAt f r.s * R))) := h3.eq (by ac_rfl)
      have x4 := x1.trans x3
      clear h2 h3 x1 x3 HR k1 kl
      obtain ⟨r0, r1, r2, r3, r4, r5, r6, r7, r8⟩ := h4.cells9
      obtain ⟨g0, g1, g2, g3, g4, g5, g6, g7, g8⟩ := h4.frees9
      have rl := h4.lt
      go_wp2_with fail
      refine ret_via (fun wz => Has wz (blk W.heap.size #[Value.bool r.r.fin, (Value.int .i64) r.r.an.fin, (Value.int .i64) r.r.an.frame, (Value.int .i64) r.r.an.rights, (Value.int .i64) r.r.ln.m.page, (Value.int .i64) r.r.ln.m.size, (Value.int .i64) r.r.ln.m.frame, (Value.int .i64) r.r.ln.m.rights, Value.bool r.r.ln.dirty] 53 * (walkerAt b root r.c * (framesAt f r.s * R))) ∧ Ext W wz) ⟨h4.set9 _ _ _ _ _ _ _ _ _, by (repeat (first | with_reducible assumption | with_reducible exact Ext.refl _ | with_reducible refine Ext.set ?_ _ _ | with_reducible refine Ext.alloc ?_ _ | with_reducible refine Ext.drew ?_ | with_reducible refine Ext.drewN ?_ _ | assumption | exact Ext.refl _ | refine Ext.alloc ?_ _ | refine Ext.set ?_ _ _ | refine Ext.drew ?_ | refine Ext.drewN ?_ _ | refine Ext.below ?_ (by assumption) | refine Ext.trans ?_ (by assumption)))⟩ ?_
      rintro wz ⟨hz, xz⟩
      exact bodyPost_ret (results_ct Try.results25 rfl rfl (load_result hz)) rfl ⟨rfl, hz.right, xz⟩
    | true =>
      obtain ⟨rfl, rfl⟩ := hmk0 hmk
      have hstep := stepC_mark (s := s) (root := root) hc hon hmk
      have hst : stV c = 2 := by unfold stV; rw [if_pos hon, if_pos hmk]
      rw [hst] at k1
      have hp := check_has (hc.acc hon)
      have HI := Lib.hid (fun X => index_any c.a.page c.level X)
      have hhw := hasW_index (s := s) (t := c.t) hp (hc.l0 hon) (hc.l3 hon)
      have hword : c.word s = s.wd c.t.toNat (index c.a.page c.level).toNat := rfl
      have HM := Lib.hid (show Mk c c.w (decE c.w c.level) from hmk0)
      have HRS := Lib.hid (fun s' => leafEnd_rs (s := s') hc hmk)
      have HMK := Lib.hid (fun R X h => markedW b root c c.w (decE c.w c.level) R X h)
      have HDN := Lib.hid (fun R X h => doneW b root c c.w (decE c.w c.level) R X h)
      have HEN := Lib.hid (fun X => encode_any (markE (decE c.w c.level) c.a) c.level X)
      have h1' : Has _ (wkBlk b root c c.w (decE c.w c.level) * (blk W.heap.size #[Value.bool false, (Value.int .i64) 0, (Value.int .i64) 0, (Value.int .i64) 0, (Value.int .i64) 0, (Value.int .i64) 0, (Value.int .i64) 0, (Value.int .i64) 0, Value.bool false] 53 * (framesAt f s * R))) := h1.p2
      clear h1
      have h1 := h1'
      clear h1' h
      cases ht : s.has c.t with
      | false =>
        have hy := Lib.hid (hstep.trans (if_pos ht))
        have hsb : swapB s c.t (index c.a.page c.level) c.w = false := by unfold swapB; rw [hhw, ht]; rfl
        have HSW := Lib.hid (fun R X h => swapF f s c.t (index c.a.page c.level) (encW (markE (decE c.w c.level) c.a) c.level) c.w R X h)
        have hss : swapS s c.t (index c.a.page c.level) c.w (encW (markE (decE c.w c.level) c.a) c.level) = s := by unfold swapS; rw [hsb]; rfl
        rw [hsb, hss] at HSW
        have HTK := Lib.hid (fun R X h => takenF f s c.t R X h)
        rw [ht] at HTK
        clear hstep ht hsb hss hword hhw hp hon hmk hst hmk0 hs hc HRS HDN
        generalize encW (markE (decE c.w c.level) c.a) c.level = x at *
        generalize markE (decE c.w c.level) c.a = me at *
        generalize decE c.w c.level = e0 at *
        generalize index c.a.page c.level = ix at *
        go_enter Try.func25, Try.ntmps25
        go_upto_region 5 with fail
        generalize W.alloc (.cells #[Value.bool false, (Value.int .i64) 0, (Value.int .i64) 0, (Value.int .i64) 0, (Value.int .i64) 0, (Value.int .i64) 0, (Value.int .i64) 0, (Value.int .i64) 0, Value.bool false] 53) = W1 at *
        generalize W.heap.size = X0 at *
        clear k1 kl
        have hb := h1
        unfold wkBlk at hb
        have v5 := via_cell (hb.cell 5)
        clear hb
        refine wp_region_via (by kernel_rfl) (by kernel_rfl) ?_
        repeat (first | go_big_quiet_step ((first | (go_at_call 103; exact Pure.via (HMK.out _ _ (h1.via _))) | (go_at_call 102; exact Pure.via (HEN.out _)))) | quiet_step ((first | (go_at_call 103; exact Pure.via (HMK.out _ _ (h1.via _))) | (go_at_call 102; exact Pure.via (HEN.out _)))))
        refine wpQuiet_nil ?_
        intro _ hw'
        obtain ⟨uq, hw''⟩ := hw'
        subst hw''
        have h2 := h1.via uq
        have x2 := x1.below (via_below _ uq)
        generalize via W1 uq = W2 at *
        clear h1 x1 v5 HMK HEN
        go_upto_region 6 with fail
        have hb := h2
        unfold wkBlk at hb
        have k2 : W2.cell? ⟨b, 2, none⟩ = some ((Value.int .i64) c.a.page) := hb.cell 2
        have k5 : W2.cell? ⟨b, 5, none⟩ = some ((Value.int .i64) c.level) := hb.cell 5
        have k6 : W2.cell? ⟨b, 6, none⟩ = some ((Value.int .i64) c.t) := hb.cell 6
        have k7 : W2.cell? ⟨b, 7, none⟩ = some ((Value.int .u64) c.w) := hb.cell 7
        have kl := hb.lt
        clear hb
        have HK := Lib.hid (fun (w' : World) (P : HProp) (h : Has w' (wkBlk b root c c.w e0 * P)) => (by
          unfold wkBlk at h
          exact ⟨h.cell 2, h.cell 5, h.cell 6, h.cell 7⟩ : w'.cell? ⟨b, 2, none⟩ = some ((Value.int .i64) c.a.page) ∧ w'.cell? ⟨b, 5, none⟩ = some ((Value.int .i64) c.level) ∧ w'.cell? ⟨b, 6, none⟩ = some ((Value.int .i64) c.t) ∧ w'.cell? ⟨b, 7, none⟩ = some ((Value.int .u64) c.w)))
        have h3 : Has W2.drew (framesAt f s * (wkBlk b root c c.w e0 * (blk X0 #[Value.bool false, (Value.int .i64) 0, (Value.int .i64) 0, (Value.int .i64) 0, (Value.int .i64) 0, (Value.int .i64) 0, (Value.int .i64) 0, (Value.int .i64) 0, Value.bool false] 53 * R))) := Has.drew (h2.eq (by ac_rfl))
        go_region_held3 (fun w' => w'.cell? ⟨b, 2, none⟩ = some ((Value.int .i64) c.a.page) ∧ w'.cell? ⟨b, 5, none⟩ = some ((Value.int .i64) c.level) ∧ w'.cell? ⟨b, 6, none⟩ = some ((Value.int .i64) c.t) ∧ w'.cell? ⟨b, 7, none⟩ = some ((Value.int .u64) c.w)) (first | (with_reducible exact HK.out _ _ h4.right) | go_keep) (first | (go_at_call 105; (with_reducible refine (HI.out _).mono ?_); rintro e2 w3 ⟨rfl, rfl⟩) | (go_at_call 104; (with_reducible refine (HSW.out _ _ h3).mono ?_); rintro e2 w4 ⟨rfl, h4, x4⟩))
        have x5 := x2.drew.trans x4
        clear h2 h3 x2 x4 k2 k5 k6 k7 kl HK HI HSW
        have h5 := h4.right
        unfold wkBlk at h5
        have k6 : w4.cell? ⟨b, 6, none⟩ = some ((Value.int .i64) c.t) := h5.cell 6
        have kl := h5.lt
        clear h5
        go_wp2_with fail
        refine (HTK.out _ _ h4).mono ?_; rintro e2 w6 ⟨rfl, rfl⟩
        have h7 : Has w4 (blk X0 #[Value.bool false, (Value.int .i64) 0, (Value.int .i64) 0, (Value.int .i64) 0, (Value.int .i64) 0, (Value.int .i64) 0, (Value.int .i64) 0, (Value.int .i64) 0, Value.bool false] 53 * (wkBlk b root c c.w e0 * (framesAt f s * R))) := h4.eq (by ac_rfl)
        obtain ⟨r0, r1, r2, r3, r4, r5, r6, r7, r8⟩ := h7.cells9
        obtain ⟨g0, g1, g2, g3, g4, g5, g6, g7, g8⟩ := h7.frees9
        have rl := h7.lt
        clear h4 k6 kl HTK
        go_wp2_with fail
        refine ret_via (fun wz => Has wz (blk X0 #[Value.bool false, (Value.int .i64) 0, (Value.int .i64) 0, (Value.int .i64) 0, (Value.int .i64) 0, (Value.int .i64) 0, (Value.int .i64) 0, (Value.int .i64) 0, Value.bool false] 53 * (wkBlk b root c c.w e0 * (framesAt f s * R))) ∧ Ext W wz) ⟨h7.set9 _ _ _ _ _ _ _ _ _, by (repeat (first | with_reducible assumption | with_reducible exact Ext.refl _ | with_reducible refine Ext.set ?_ _ _ | with_reducible refine Ext.alloc ?_ _ | with_reducible refine Ext.drew ?_ | with_reducible refine Ext.drewN ?_ _ | assumption | exact Ext.refl _ | refine Ext.alloc ?_ _ | refine Ext.set ?_ _ _ | refine Ext.drew ?_ | refine Ext.drewN ?_ _ | refine Ext.below ?_ (by assumption) | refine Ext.trans ?_ (by assumption)))⟩ ?_
        rintro wz ⟨hz, xz⟩
        exact bodyPost_ret (results_ct Try.results25 rfl rfl (load_result hz)) rfl ⟨by rw [hy.out]; rfl, by rw [hy.out]; exact walkerAt_shut HM.out hz.right, xz⟩
      | true =>
        rw [if_neg (by rw [ht]; simp)] at hstep
        by_cases hw : c.word s = c.w
        case neg =>
          have hy := Lib.hid (hstep.trans (if_pos hw))
          have hsb : swapB s c.t (index c.a.page c.level) c.w = false := by unfold swapB; rw [hhw, ht, ← hword]; simpa using hw
          have HSW := Lib.hid (fun R X h => swapF f s c.t (index c.a.page c.level) (encW (markE (decE c.w c.level) c.a) c.level) c.w R X h)
          have hss : swapS s c.t (index c.a.page c.level) c.w (encW (markE (decE c.w c.level) c.a) c.level) = s := by unfold swapS; rw [hsb]; rfl
          rw [hsb, hss] at HSW
          have HTK := Lib.hid (fun R X h => takenF f s c.t R X h)
          rw [ht] at HTK
          have HAG := Lib.hid (fun R X h => againW b root c R X h)
          clear hstep ht hsb hss hword hhw hp hon hmk hst hmk0 hs hc HRS HDN hw
          generalize encW (markE (decE c.w c.level) c.a) c.level = x at *
          generalize markE (decE c.w c.level) c.a = me at *
          generalize decE c.w c.level = e0 at *
          generalize index c.a.page c.level = ix at *
          go_enter Try.func25, Try.ntmps25
          go_upto_region 5 with fail
          generalize W.alloc (.cells #[Value.bool false, (Value.int .i64) 0, (Value.int .i64) 0, (Value.int .i64) 0, (Value.int .i64) 0, (Value.int .i64) 0, (Value.int .i64) 0, (Value.int .i64) 0, Value.bool false] 53) = W1 at *
          generalize W.heap.size = X0 at *
          clear k1 kl
          have hb := h1
          unfold wkBlk at hb
          have v5 := via_cell (hb.cell 5)
          clear hb
          refine wp_region_via (by kernel_rfl) (by kernel_rfl) ?_
          repeat (first | go_big_quiet_step ((first | (go_at_call 103; exact Pure.via (HMK.out _ _ (h1.via _))) | (go_at_call 102; exact Pure.via (HEN.out _)))) | quiet_step ((first | (go_at_call 103; exact Pure.via (HMK.out _ _ (h1.via _))) | (go_at_call 102; exact Pure.via (HEN.out _)))))
          refine wpQuiet_nil ?_
          intro _ hw'
          obtain ⟨uq, hw''⟩ := hw'
          subst hw''
          have h2 := h1.via uq
          have x2 := x1.below (via_below _ uq)
          generalize via W1 uq = W2 at *
          clear h1 x1 v5 HMK HEN
          go_upto_region 6 with fail
          have hb := h2
          unfold wkBlk at hb
          have k2 : W2.cell? ⟨b, 2, none⟩ = some ((Value.int .i64) c.a.page) := hb.cell 2
          have k5 : W2.cell? ⟨b, 5, none⟩ = some ((Value.int .i64) c.level) := hb.cell 5
          have k6 : W2.cell? ⟨b, 6, none⟩ = some ((Value.int .i64) c.t) := hb.cell 6
          have k7 : W2.cell? ⟨b, 7, none⟩ = some ((Value.int .u64) c.w) := hb.cell 7
          have kl := hb.lt
          clear hb
          have HK := Lib.hid (fun (w' : World) (P : HProp) (h : Has w' (wkBlk b root c c.w e0 * P)) => (by
            unfold wkBlk at h
            exact ⟨h.cell 2, h.cell 5, h.cell 6, h.cell 7⟩ : w'.cell? ⟨b, 2, none⟩ = some ((Value.int .i64) c.a.page) ∧ w'.cell? ⟨b, 5, none⟩ = some ((Value.int .i64) c.level) ∧ w'.cell? ⟨b, 6, none⟩ = some ((Value.int .i64) c.t) ∧ w'.cell? ⟨b, 7, none⟩ = some ((Value.int .u64) c.w)))
          have h3 : Has W2.drew (framesAt f s * (wkBlk b root c c.w e0 * (blk X0 #[Value.bool false, (Value.int .i64) 0, (Value.int .i64) 0, (Value.int .i64) 0, (Value.int .i64) 0, (Value.int .i64) 0, (Value.int .i64) 0, (Value.int .i64) 0, Value.bool false] 53 * R))) := Has.drew (h2.eq (by ac_rfl))
          go_region_held3 (fun w' => w'.cell? ⟨b, 2, none⟩ = some ((Value.int .i64) c.a.page) ∧ w'.cell? ⟨b, 5, none⟩ = some ((Value.int .i64) c.level) ∧ w'.cell? ⟨b, 6, none⟩ = some ((Value.int .i64) c.t) ∧ w'.cell? ⟨b, 7, none⟩ = some ((Value.int .u64) c.w)) (first | (with_reducible exact HK.out _ _ h4.right) | go_keep) (first | (go_at_call 105; (with_reducible refine (HI.out _).mono ?_); rintro e2 w3 ⟨rfl, rfl⟩) | (go_at_call 104; (with_reducible refine (HSW.out _ _ h3).mono ?_); rintro e2 w4 ⟨rfl, h4, x4⟩))
          have x5 := x2.drew.trans x4
          clear h2 h3 x2 x4 k2 k5 k6 k7 kl HK HI HSW
          have h5 := h4.right
          unfold wkBlk at h5
          have k6 : w4.cell? ⟨b, 6, none⟩ = some ((Value.int .i64) c.t) := h5.cell 6
          have kl := h5.lt
          clear h5
          go_wp2_with fail
          refine (HTK.out _ _ h4).mono ?_; rintro e2 w6 ⟨rfl, rfl⟩
          go_wp2_with fail
          refine (HAG.out _ _ (walkerAt_shut HM.out h4.p2)).mono ?_; rintro e2 w6 ⟨rfl, h6, x6⟩
          have h7 : Has w6 (blk X0 #[Value.bool false, (Value.int .i64) 0, (Value.int .i64) 0, (Value.int .i64) 0, (Value.int .i64) 0, (Value.int .i64) 0, (Value.int .i64) 0, (Value.int .i64) 0, Value.bool false] 53 * (walkerAt b root (c.again root) * (framesAt f s * R))) := h6.eq (by ac_rfl)
          have x7 := x5.trans x6
          obtain ⟨r0, r1, r2, r3, r4, r5, r6, r7, r8⟩ := h7.cells9
          obtain ⟨g0, g1, g2, g3, g4, g5, g6, g7, g8⟩ := h7.frees9
          have rl := h7.lt
          clear h4 h6 k6 kl HTK x5 x6 HAG
          go_wp2_with fail
          refine ret_via (fun wz => Has wz (blk X0 #[Value.bool false, (Value.int .i64) 0, (Value.int .i64) 0, (Value.int .i64) 0, (Value.int .i64) 0, (Value.int .i64) 0, (Value.int .i64) 0, (Value.int .i64) 0, Value.bool false] 53 * (walkerAt b root (c.again root) * (framesAt f s * R))) ∧ Ext W wz) ⟨h7.set9 _ _ _ _ _ _ _ _ _, by (repeat (first | with_reducible assumption | with_reducible exact Ext.refl _ | with_reducible refine Ext.set ?_ _ _ | with_reducible refine Ext.alloc ?_ _ | with_reducible refine Ext.drew ?_ | with_reducible refine Ext.drewN ?_ _ | assumption | exact Ext.refl _ | refine Ext.alloc ?_ _ | refine Ext.set ?_ _ _ | refine Ext.drew ?_ | refine Ext.drewN ?_ _ | refine Ext.below ?_ (by assumption) | refine Ext.trans ?_ (by assumption)))⟩ ?_
          rintro wz ⟨hz, xz⟩
          exact bodyPost_ret (results_ct Try.results25 rfl rfl (load_result hz)) rfl ⟨by rw [hy.out]; rfl, by rw [hy.out]; exact hz.right, xz⟩
        case pos =>
          have hy := Lib.hid (hstep.trans (if_neg (fun h => h hw)))
          have hsb : swapB s c.t (index c.a.page c.level) c.w = true := by unfold swapB; rw [hhw, ht, ← hword]; simpa using hw
          have HSW := Lib.hid (fun R X h => swapF f s c.t (index c.a.page c.level) (encW (markE (decE c.w c.level) c.a) c.level) c.w R X h)
          have hss : swapS s c.t (index c.a.page c.level) c.w (encW (markE (decE c.w c.level) c.a) c.level) = s.setW c.t.toNat (index c.a.page c.level).toNat (encW (markE (decE c.w c.level) c.a) c.level) := by unfold swapS; rw [hsb]; rfl
          rw [hsb, hss] at HSW
          have HRS' := Lib.hid (HRS.out (s.setW c.t.toNat (index c.a.page c.level).toNat (encW (markE (decE c.w c.level) c.a) c.level)))
          clear HRS
          have HR0 : Hid ((stepC s root c).r = ⟨true, answer (leafMap (decE c.w c.level) c.level c.a.page) c.a, ⟨leafMap (decE c.w c.level) c.level c.a.page, (markE (decE c.w c.level) c.a).dirty⟩⟩ ∧ (stepC s root c).c = c.idle ∧ (stepC s root c).code = 0 ∧ (stepC s root c).s = s.setW c.t.toNat (index c.a.page c.level).toNat (encW (markE (decE c.w c.level) c.a) c.level)) := Lib.hid (by
            rw [hy.out]
            exact ⟨HRS'.out, rfl, rfl, rfl⟩)
          clear hstep ht hsb hss hword hhw hp hon hmk hst hmk0 hs hc HRS' hw hy
          generalize s.setW c.t.toNat (index c.a.page c.level).toNat (encW (markE (decE c.w c.level) c.a) c.level) = s' at *
          generalize encW (markE (decE c.w c.level) c.a) c.level = x at *
          generalize answer (leafMap (decE c.w c.level) c.level c.a.page) c.a = an at *
          generalize leafMap (decE c.w c.level) c.level c.a.page = lm at *
          generalize markE (decE c.w c.level) c.a = me at *
          generalize decE c.w c.level = e0 at *
          generalize index c.a.page c.level = ix at *
          go_enter Try.func25, Try.ntmps25
          go_upto_region 5 with fail
          generalize W.alloc (.cells #[Value.bool false, (Value.int .i64) 0, (Value.int .i64) 0, (Value.int .i64) 0, (Value.int .i64) 0, (Value.int .i64) 0, (Value.int .i64) 0, (Value.int .i64) 0, Value.bool false] 53) = W1 at *
          generalize W.heap.size = X0 at *
          clear k1 kl
          have hb := h1
          unfold wkBlk at hb
          have v5 := via_cell (hb.cell 5)
          clear hb
          refine wp_region_via (by kernel_rfl) (by kernel_rfl) ?_
          repeat (first | go_big_quiet_step ((first | (go_at_call 103; exact Pure.via (HMK.out _ _ (h1.via _))) | (go_at_call 102; exact Pure.via (HEN.out _)))) | quiet_step ((first | (go_at_call 103; exact Pure.via (HMK.out _ _ (h1.via _))) | (go_at_call 102; exact Pure.via (HEN.out _)))))
          refine wpQuiet_nil ?_
          intro _ hw'
          obtain ⟨uq, hw''⟩ := hw'
          subst hw''
          have h2 := h1.via uq
          have x2 := x1.below (via_below _ uq)
          generalize via W1 uq = W2 at *
          clear h1 x1 v5 HMK HEN
          go_upto_region 6 with fail
          have hb := h2
          unfold wkBlk at hb
          have k2 : W2.cell? ⟨b, 2, none⟩ = some ((Value.int .i64) c.a.page) := hb.cell 2
          have k5 : W2.cell? ⟨b, 5, none⟩ = some ((Value.int .i64) c.level) := hb.cell 5
          have k6 : W2.cell? ⟨b, 6, none⟩ = some ((Value.int .i64) c.t) := hb.cell 6
          have k7 : W2.cell? ⟨b, 7, none⟩ = some ((Value.int .u64) c.w) := hb.cell 7
          have kl := hb.lt
          clear hb
          have HK := Lib.hid (fun (w' : World) (P : HProp) (h : Has w' (wkBlk b root c c.w e0 * P)) => (by
            unfold wkBlk at h
            exact ⟨h.cell 2, h.cell 5, h.cell 6, h.cell 7⟩ : w'.cell? ⟨b, 2, none⟩ = some ((Value.int .i64) c.a.page) ∧ w'.cell? ⟨b, 5, none⟩ = some ((Value.int .i64) c.level) ∧ w'.cell? ⟨b, 6, none⟩ = some ((Value.int .i64) c.t) ∧ w'.cell? ⟨b, 7, none⟩ = some ((Value.int .u64) c.w)))
          have h3 : Has W2.drew (framesAt f s * (wkBlk b root c c.w e0 * (blk X0 #[Value.bool false, (Value.int .i64) 0, (Value.int .i64) 0, (Value.int .i64) 0, (Value.int .i64) 0, (Value.int .i64) 0, (Value.int .i64) 0, (Value.int .i64) 0, Value.bool false] 53 * R))) := Has.drew (h2.eq (by ac_rfl))
          go_region_held3 (fun w' => w'.cell? ⟨b, 2, none⟩ = some ((Value.int .i64) c.a.page) ∧ w'.cell? ⟨b, 5, none⟩ = some ((Value.int .i64) c.level) ∧ w'.cell? ⟨b, 6, none⟩ = some ((Value.int .i64) c.t) ∧ w'.cell? ⟨b, 7, none⟩ = some ((Value.int .u64) c.w)) (first | (with_reducible exact HK.out _ _ h4.right) | go_keep) (first | (go_at_call 105; (with_reducible refine (HI.out _).mono ?_); rintro e2 w3 ⟨rfl, rfl⟩) | (go_at_call 104; (with_reducible refine (HSW.out _ _ h3).mono ?_); rintro e2 w4 ⟨rfl, h4, x4⟩))
          have x5 := x2.drew.trans x4
          clear h2 h3 x2 x4 k2 k5 k6 k7 kl HK HI HSW
          go_wp2_with fail
          refine (HDN.out _ _ h4.p2).mono ?_; rintro e2 w6 ⟨rfl, h6, x6⟩
          have h7 : Has w6 (blk X0 #[Value.bool false, (Value.int .i64) 0, (Value.int .i64) 0, (Value.int .i64) 0, (Value.int .i64) 0, (Value.int .i64) 0, (Value.int .i64) 0, (Value.int .i64) 0, Value.bool false] 53 * (wkBlk b root c.idle c.w e0 * (framesAt f s' * R))) := h6.eq (by ac_rfl)
          have x7 := x5.trans x6
          obtain ⟨r0, r1, r2, r3, r4, r5, r6, r7, r8⟩ := h7.cells9
          obtain ⟨g0, g1, g2, g3, g4, g5, g6, g7, g8⟩ := h7.frees9
          have rl := h7.lt
          clear h4 h6 x5 x6 HDN
          go_wp2_with fail
          refine ret_via (fun wz => Has wz (blk X0 #[Value.bool true, (Value.int .i64) an.fin, (Value.int .i64) an.frame, (Value.int .i64) an.rights, (Value.int .i64) lm.page, (Value.int .i64) lm.size, (Value.int .i64) lm.frame, (Value.int .i64) lm.rights, Value.bool me.dirty] 53 * (wkBlk b root c.idle c.w e0 * (framesAt f s' * R))) ∧ Ext W wz) ⟨h7.set9 _ _ _ _ _ _ _ _ _, by (repeat (first | with_reducible assumption | with_reducible exact Ext.refl _ | with_reducible refine Ext.set ?_ _ _ | with_reducible refine Ext.alloc ?_ _ | with_reducible refine Ext.drew ?_ | with_reducible refine Ext.drewN ?_ _ | assumption | exact Ext.refl _ | refine Ext.alloc ?_ _ | refine Ext.set ?_ _ _ | refine Ext.drew ?_ | refine Ext.drewN ?_ _ | refine Ext.below ?_ (by assumption) | refine Ext.trans ?_ (by assumption)))⟩ ?_
          rintro wz ⟨hz, xz⟩
          exact bodyPost_ret (results_ct Try.results25 rfl rfl (load_result hz)) rfl ⟨by rw [HR0.out.1, HR0.out.2.2.1]; rfl, by rw [HR0.out.2.1, HR0.out.2.2.2]; exact walkerAt_shut (Mk.idle _ _ _) hz.right, xz⟩
end Go.Proofs.Ytndhgomikpokpaa
