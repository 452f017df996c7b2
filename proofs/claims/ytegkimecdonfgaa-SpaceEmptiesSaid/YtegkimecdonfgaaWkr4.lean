/- Contract of walker's Step, against stepC. -/
import Derived.Test.YtegkimecdonfgaaWkr2
import Derived.Test.YtegkimecdonfgaaWkFind
import Derived.Test.YtegkimecdonfgaaSep
import Derived.Test.YtegkimecdonfgaaFrames2
import Derived.Deep.RegionHeld3
import Derived.Test.YtegkimecdonfgaaEntry2
import Derived.Deep.LoopGhost
import Derived.Deep.DeepCutAuto
import Derived.Deep.CutBlock
import Derived.Test.YtegkimecdonfgaaWalkM2
import Derived.Test.YtegkimecdonfgaaTblM3
import Derived.Lib.Hide
import Derived.WalkSpells
import Derived.Outline
import Derived.RangeFuncNested
import Derived.RangeFuncBound
import Derived.RangeFuncCalls
import Derived.RangeFuncLeaves
import Derived.Shelf.Abstract
import Derived.Shelf.RegionOpen
import Derived.WalkKit
import Derived.OwnWalkIn
import Derived.TacticsInMore
import Derived.LoopNIn
import Derived.LoopIn
namespace Go.Proofs.Ytegkimecdonfgaa
open Go.RowKit
set_option maxRecDepth 100000
theorem Ms.Ok.setW {s : Ms} (h : s.Ok) (k i : Nat) {v : Int} (hv : 0 ≤ v ∧ v < 18446744073709551616) : (s.setW k i v).Ok := ⟨h.inv.setW k i hv, h.small⟩
theorem stepC_ok {s : Ms} (h : s.Ok) (root : Int) (c : Ck) : (stepC s root c).s.Ok := by
  unfold stepC
  split; · exact h
  split; · exact h
  split; · exact h
  split; · exact h
  split; · exact h
  split; · exact h
  split; · exact h
  split; · exact h.setW _ _ (encW_u64 _ _)
  split; · exact h
  exact h
theorem stepC_mark {s : Ms} {root : Int} {c : Ck} (hc : c.Ok) (hon : c.on = true) (hmk : c.mark = true) :
    stepC s root c = if s.has c.t = false then ⟨c, s, Rs.zero, 12⟩
      else if c.word s ≠ c.w then ⟨c.again root, s, Rs.zero, 0⟩
      else c.leafEnd (s.setW c.t.toNat (index c.a.page c.level).toNat (encW (markE (decE c.w c.level) c.a) c.level)) (markE (decE c.w c.level) c.a) := by
  unfold stepC
  rw [if_neg (by rw [hon]; simp)]
  split
  · rfl
  · by_cases hw : c.word s ≠ c.w
    · rw [if_pos ⟨hmk, hw⟩, if_pos hw]
    · rw [if_neg (fun h => hw h.2), if_neg hw]
      have hw : c.word s = c.w := by simpa using hw
      obtain ⟨h1, h2⟩ := hc.leaf hmk
      rw [hw, if_neg (by rw [hc.dec hmk]; simp), if_neg (by rw [h1]; simp), if_neg (by rw [h2]; simp), if_neg (by rw [hc.may hmk]; simp)]
/-- What the program's mark tells is what the document's tells. -/
theorem leafEnd_rs {s : Ms} {c : Ck} (hc : c.Ok) (hmk : c.mark = true) : (c.leafEnd s (markE (decE c.w c.level) c.a)).r = ⟨true, answer (leafMap (decE c.w c.level) c.level c.a.page) c.a, ⟨leafMap (decE c.w c.level) c.level c.a.page, (markE (decE c.w c.level) c.a).dirty⟩⟩ := by
  unfold Ck.leafEnd
  dsimp only
  rw [leafMap_mark c.a (enc_dec (hc.dec hmk)).1 (hc.leaf hmk).2]
set_option maxHeartbeats 8000000 in
theorem stepW (b f : Nat) (root : Int) (c : Ck) (s : Ms) (hs : s.Ok) (hc : c.Ok) (R : HProp) (W : World) (h : Has W (walkerAt b root c * (framesAt f s * R))) :
    Calls Try.prog 116 #[.pointer (some ⟨b, 0, none⟩), .pointer (some ⟨f, 0, none⟩)] W (Res (.tuple #[RsV (stepC s root c).r, (Value.int .i64) (stepC s root c).code]) (walkerAt b root (stepC s root c).c * (framesAt f (stepC s root c).s * R)) W) := by
  obtain ⟨w0, e0, hmk0, h⟩ := walkerAt_open h
  have h1 := h.new #[Value.bool false, (Value.int .i64) 0, (Value.int .i64) 0, (Value.int .i64) 0, (Value.int .i64) 0, (Value.int .i64) 0, (Value.int .i64) 0, (Value.int .i64) 0, Value.bool false] 180
  have x1 := (Ext.refl W).alloc (.cells #[Value.bool false, (Value.int .i64) 0, (Value.int .i64) 0, (Value.int .i64) 0, (Value.int .i64) 0, (Value.int .i64) 0, (Value.int .i64) 0, (Value.int .i64) 0, Value.bool false] 180)
  have hb := h
  unfold wkBlk at hb
  have k1 : W.cell? ⟨b, 1, none⟩ = some ((Value.int .i64) (stV c)) := hb.cell 1
  have kl := hb.lt
  clear hb
  cases hon : c.on with
  | false =>
    have hy := Lib.hid (show stepC s root c = ⟨c, s, Rs.zero, 9⟩ by unfold stepC; rw [if_pos hon])
    have hst : stV c = 0 := by unfold stV; rw [if_neg (by rw [hon]; simp)]
    rw [hst] at k1
    have HM := Lib.hid hmk0
    clear hon hst hmk0 hs hc h
    obtain ⟨r0, r1, r2, r3, r4, r5, r6, r7, r8⟩ := h1.cells9
    obtain ⟨g0, g1, g2, g3, g4, g5, g6, g7, g8⟩ := h1.frees9
    have rl := h1.lt
    go_enter Try.func116, Try.ntmps116
    go_wp2_with fail
    refine ret_via (fun wz => Has wz (blk W.heap.size #[Value.bool false, (Value.int .i64) 0, (Value.int .i64) 0, (Value.int .i64) 0, (Value.int .i64) 0, (Value.int .i64) 0, (Value.int .i64) 0, (Value.int .i64) 0, Value.bool false] 180 * (wkBlk b root c w0 e0 * (framesAt f s * R))) ∧ Ext W wz) ⟨h1, by (repeat (first | with_reducible assumption | with_reducible exact Ext.refl _ | with_reducible refine Ext.set ?_ _ _ | with_reducible refine Ext.alloc ?_ _ | with_reducible refine Ext.drew ?_ | with_reducible refine Ext.drewN ?_ _ | assumption | exact Ext.refl _ | refine Ext.alloc ?_ _ | refine Ext.set ?_ _ _ | refine Ext.drew ?_ | refine Ext.drewN ?_ _ | refine Ext.below ?_ (by assumption) | refine Ext.trans ?_ (by assumption)))⟩ ?_
    rintro wz ⟨hz, xz⟩
    exact bodyPost_ret (results_ct Try.results116 rfl rfl (load_result hz)) rfl ⟨by rw [hy.out]; rfl, by rw [hy.out]; exact walkerAt_shut HM.out hz.right, xz⟩
  | true =>
    cases hmk : c.mark with
    | false =>
      have HR := Lib.hid (fun R X h => readW b f root c s hs hc hon hmk w0 e0 R X h)
      have hst : stV c = 1 := by unfold stV; rw [if_pos hon, if_neg (by rw [hmk]; simp)]
      rw [hst] at k1
      have h2 : Has _ (wkBlk b root c w0 e0 * (framesAt f s * (blk W.heap.size #[Value.bool false, (Value.int .i64) 0, (Value.int .i64) 0, (Value.int .i64) 0, (Value.int .i64) 0, (Value.int .i64) 0, (Value.int .i64) 0, (Value.int .i64) 0, Value.bool false] 180 * R))) := h1.eq (by ac_rfl)
      clear hon hmk hst hmk0 hs hc h h1
      generalize stepC s root c = r at *
      go_enter Try.func116, Try.ntmps116
      go_wp2_with fail
      refine (HR.out _ _ h2).mono ?_; rintro e2 w3 ⟨rfl, h3, x3⟩
      have h4 : Has w3 (blk W.heap.size #[Value.bool false, (Value.int .i64) 0, (Value.int .i64) 0, (Value.int .i64) 0, (Value.int .i64) 0, (Value.int .i64) 0, (Value.int .i64) 0, (Value.int .i64) 0, Value.bool false] 180 * (walkerAt b root r.c * (framesAt f r.s * R))) := h3.eq (by ac_rfl)
      have x4 := x1.trans x3
      clear h2 h3 x1 x3 HR k1 kl
      obtain ⟨r0, r1, r2, r3, r4, r5, r6, r7, r8⟩ := h4.cells9
      obtain ⟨g0, g1, g2, g3, g4, g5, g6, g7, g8⟩ := h4.frees9
      have rl := h4.lt
      go_wp2_with fail
      refine ret_via (fun wz => Has wz (blk W.heap.size #[Value.bool r.r.fin, (Value.int .i64) r.r.an.fin, (Value.int .i64) r.r.an.frame, (Value.int .i64) r.r.an.rights, (Value.int .i64) r.r.ln.m.page, (Value.int .i64) r.r.ln.m.size, (Value.int .i64) r.r.ln.m.frame, (Value.int .i64) r.r.ln.m.rights, Value.bool r.r.ln.dirty] 180 * (walkerAt b root r.c * (framesAt f r.s * R))) ∧ Ext W wz) ⟨h4.set9 _ _ _ _ _ _ _ _ _, by (repeat (first | with_reducible assumption | with_reducible exact Ext.refl _ | with_reducible refine Ext.set ?_ _ _ | with_reducible refine Ext.alloc ?_ _ | with_reducible refine Ext.drew ?_ | with_reducible refine Ext.drewN ?_ _ | assumption | exact Ext.refl _ | refine Ext.alloc ?_ _ | refine Ext.set ?_ _ _ | refine Ext.drew ?_ | refine Ext.drewN ?_ _ | refine Ext.below ?_ (by assumption) | refine Ext.trans ?_ (by assumption)))⟩ ?_
      rintro wz ⟨hz, xz⟩
      exact bodyPost_ret (results_ct Try.results116 rfl rfl (load_result hz)) rfl ⟨rfl, hz.right, xz⟩
    | true =>
      obtain ⟨rfl, rfl⟩ := hmk0 hmk
      have hstep := stepC_mark (s := s) (root := root) hc hon hmk
      have hst : stV c = 2 := by unfold stV; rw [if_pos hon, if_pos hmk]
      rw [hst] at k1
      have hp := check_has (hc.acc hon)
      have HI := Lib.hid (fun X => index_any c.a.page c.level X)
      have hhw := hasW_index (s := s) (t := c.t) hp (hc.l0 hon) (hc.l3 hon)
      have hword : c.word s = s.wd c.t.toNat (index c.a.page c.level).toNat := rfl
      have HM := Lib.hid (show Mk c c.w (decE c.w c.level) from hmk0)
      have HRS := Lib.hid (fun s' => leafEnd_rs (s := s') hc hmk)
      have HMK := Lib.hid (fun R X h => markedW b root c c.w (decE c.w c.level) R X h)
      have HDN := Lib.hid (fun R X h => doneW b root c c.w (decE c.w c.level) R X h)
      have HEN := Lib.hid (fun X => encode_any (markE (decE c.w c.level) c.a) c.level X)
      have h1' : Has _ (wkBlk b root c c.w (decE c.w c.level) * (blk W.heap.size #[Value.bool false, (Value.int .i64) 0, (Value.int .i64) 0, (Value.int .i64) 0, (Value.int .i64) 0, (Value.int .i64) 0, (Value.int .i64) 0, (Value.int .i64) 0, Value.bool false] 180 * (framesAt f s * R))) := h1.p2
      clear h1
      have h1 := h1'
      clear h1' h
      cases ht : s.has c.t with
      | false =>
        have hy := Lib.hid (hstep.trans (if_pos ht))
        have hsb : swapB s c.t (index c.a.page c.level) c.w = false := by unfold swapB; rw [hhw, ht]; rfl
        have HSW := Lib.hid (fun R X h => swapF f s c.t (index c.a.page c.level) (encW (markE (decE c.w c.level) c.a) c.level) c.w R X h)
        have hss : swapS s c.t (index c.a.page c.level) c.w (encW (markE (decE c.w c.level) c.a) c.level) = s := by unfold swapS; rw [hsb]; rfl
        rw [hsb, hss] at HSW
        have HTK := Lib.hid (fun R X h => takenF f s c.t R X h)
        rw [ht] at HTK
        clear hstep ht hsb hss hword hhw hp hon hmk hst hmk0 hs hc HRS HDN
        generalize encW (markE (decE c.w c.level) c.a) c.level = x at *
        generalize markE (decE c.w c.level) c.a = me at *
        generalize decE c.w c.level = e0 at *
        generalize index c.a.page c.level = ix at *
        go_enter Try.func116, Try.ntmps116
        go_upto_region 5 with fail
        generalize W.alloc (.cells #[Value.bool false, (Value.int .i64) 0, (Value.int .i64) 0, (Value.int .i64) 0, (Value.int .i64) 0, (Value.int .i64) 0, (Value.int .i64) 0, (Value.int .i64) 0, Value.bool false] 180) = W1 at *
        generalize W.heap.size = X0 at *
        clear k1 kl
        have hb := h1
        unfold wkBlk at hb
        have v5 := via_cell (hb.cell 5)
        clear hb
        refine wp_region_via (by kernel_rfl) (by kernel_rfl) ?_
        repeat (first | go_big_quiet_step ((first | (go_at_call 134; exact Pure.via (HMK.out _ _ (h1.via _))) | (go_at_call 70; exact Pure.via (HEN.out _)))) | quiet_step ((first | (go_at_call 134; exact Pure.via (HMK.out _ _ (h1.via _))) | (go_at_call 70; exact Pure.via (HEN.out _)))))
        refine wpQuiet_nil ?_
        intro _ hw'
        obtain ⟨uq, hw''⟩ := hw'
        subst hw''
        have h2 := h1.via uq
        have x2 := x1.below (via_below _ uq)
        generalize via W1 uq = W2 at *
        clear h1 x1 v5 HMK HEN
        go_upto_region 6 with fail
        have hb := h2
        unfold wkBlk at hb
        have k2 : W2.cell? ⟨b, 2, none⟩ = some ((Value.int .i64) c.a.page) := hb.cell 2
        have k5 : W2.cell? ⟨b, 5, none⟩ = some ((Value.int .i64) c.level) := hb.cell 5
        have k6 : W2.cell? ⟨b, 6, none⟩ = some ((Value.int .i64) c.t) := hb.cell 6
        have k7 : W2.cell? ⟨b, 7, none⟩ = some ((Value.int .u64) c.w) := hb.cell 7
        have kl := hb.lt
        clear hb
        have HK := Lib.hid (fun (w' : World) (P : HProp) (h : Has w' (wkBlk b root c c.w e0 * P)) => (by
          unfold wkBlk at h
          exact ⟨h.cell 2, h.cell 5, h.cell 6, h.cell 7⟩ : w'.cell? ⟨b, 2, none⟩ = some ((Value.int .i64) c.a.page) ∧ w'.cell? ⟨b, 5, none⟩ = some ((Value.int .i64) c.level) ∧ w'.cell? ⟨b, 6, none⟩ = some ((Value.int .i64) c.t) ∧ w'.cell? ⟨b, 7, none⟩ = some ((Value.int .u64) c.w)))
        have h3 : Has W2.drew (framesAt f s * (wkBlk b root c c.w e0 * (blk X0 #[Value.bool false, (Value.int .i64) 0, (Value.int .i64) 0, (Value.int .i64) 0, (Value.int .i64) 0, (Value.int .i64) 0, (Value.int .i64) 0, (Value.int .i64) 0, Value.bool false] 180 * R))) := Has.drew (h2.eq (by ac_rfl))
        go_region_held3 (fun w' => w'.cell? ⟨b, 2, none⟩ = some ((Value.int .i64) c.a.page) ∧ w'.cell? ⟨b, 5, none⟩ = some ((Value.int .i64) c.level) ∧ w'.cell? ⟨b, 6, none⟩ = some ((Value.int .i64) c.t) ∧ w'.cell? ⟨b, 7, none⟩ = some ((Value.int .u64) c.w)) (first | (with_reducible exact HK.out _ _ h4.right) | go_keep) (first | (go_at_call 62; (with_reducible refine (HI.out _).mono ?_); rintro e2 w3 ⟨rfl, rfl⟩) | (go_at_call 135; (with_reducible refine (HSW.out _ _ h3).mono ?_); rintro e2 w4 ⟨rfl, h4, x4⟩))
        have x5 := x2.drew.trans x4
        clear h2 h3 x2 x4 k2 k5 k6 k7 kl HK HI HSW
        have h5 := h4.right
        unfold wkBlk at h5
        have k6 : w4.cell? ⟨b, 6, none⟩ = some ((Value.int .i64) c.t) := h5.cell 6
        have kl := h5.lt
        clear h5
        go_wp2_with fail
        refine (HTK.out _ _ h4).mono ?_; rintro e2 w6 ⟨rfl, rfl⟩
        have h7 : Has w4 (blk X0 #[Value.bool false, (Value.int .i64) 0, (Value.int .i64) 0, (Value.int .i64) 0, (Value.int .i64) 0, (Value.int .i64) 0, (Value.int .i64) 0, (Value.int .i64) 0, Value.bool false] 180 * (wkBlk b root c c.w e0 * (framesAt f s * R))) := h4.eq (by ac_rfl)
        obtain ⟨r0, r1, r2, r3, r4, r5, r6, r7, r8⟩ := h7.cells9
        obtain ⟨g0, g1, g2, g3, g4, g5, g6, g7, g8⟩ := h7.frees9
        have rl := h7.lt
        clear h4 k6 kl HTK
        go_wp2_with fail
        refine ret_via (fun wz => Has wz (blk X0 #[Value.bool false, (Value.int .i64) 0, (Value.int .i64) 0, (Value.int .i64) 0, (Value.int .i64) 0, (Value.int .i64) 0, (Value.int .i64) 0, (Value.int .i64) 0, Value.bool false] 180 * (wkBlk b root c c.w e0 * (framesAt f s * R))) ∧ Ext W wz) ⟨h7.set9 _ _ _ _ _ _ _ _ _, by (repeat (first | with_reducible assumption | with_reducible exact Ext.refl _ | with_reducible refine Ext.set ?_ _ _ | with_reducible refine Ext.alloc ?_ _ | with_reducible refine Ext.drew ?_ | with_reducible refine Ext.drewN ?_ _ | assumption | exact Ext.refl _ | refine Ext.alloc ?_ _ | refine Ext.set ?_ _ _ | refine Ext.drew ?_ | refine Ext.drewN ?_ _ | refine Ext.below ?_ (by assumption) | refine Ext.trans ?_ (by assumption)))⟩ ?_
        rintro wz ⟨hz, xz⟩
        exact bodyPost_ret (results_ct Try.results116 rfl rfl (load_result hz)) rfl ⟨by rw [hy.out]; rfl, by rw [hy.out]; exact walkerAt_shut HM.out hz.right, xz⟩
      | true =>
        rw [if_neg (by rw [ht]; simp)] at hstep
        by_cases hw : c.word s = c.w
        case neg =>
          have hy := Lib.hid (hstep.trans (if_pos hw))
          have hsb : swapB s c.t (index c.a.page c.level) c.w = false := by unfold swapB; rw [hhw, ht, ← hword]; simpa using hw
          have HSW := Lib.hid (fun R X h => swapF f s c.t (index c.a.page c.level) (encW (markE (decE c.w c.level) c.a) c.level) c.w R X h)
          have hss : swapS s c.t (index c.a.page c.level) c.w (encW (markE (decE c.w c.level) c.a) c.level) = s := by unfold swapS; rw [hsb]; rfl
          rw [hsb, hss] at HSW
          have HTK := Lib.hid (fun R X h => takenF f s c.t R X h)
          rw [ht] at HTK
          have HAG := Lib.hid (fun R X h => againW b root c R X h)
          clear hstep ht hsb hss hword hhw hp hon hmk hst hmk0 hs hc HRS HDN hw
          generalize encW (markE (decE c.w c.level) c.a) c.level = x at *
          generalize markE (decE c.w c.level) c.a = me at *
          generalize decE c.w c.level = e0 at *
          generalize index c.a.page c.level = ix at *
          go_enter Try.func116, Try.ntmps116
          go_upto_region 5 with fail
          generalize W.alloc (.cells #[Value.bool false, (Value.int .i64) 0, (Value.int .i64) 0, (Value.int .i64) 0, (Value.int .i64) 0, (Value.int .i64) 0, (Value.int .i64) 0, (Value.int .i64) 0, Value.bool false] 180) = W1 at *
          generalize W.heap.size = X0 at *
          clear k1 kl
          have hb := h1
          unfold wkBlk at hb
          have v5 := via_cell (hb.cell 5)
          clear hb
          refine wp_region_via (by kernel_rfl) (by kernel_rfl) ?_
          repeat (first | go_big_quiet_step ((first | (go_at_call 134; exact Pure.via (HMK.out _ _ (h1.via _))) | (go_at_call 70; exact Pure.via (HEN.out _)))) | quiet_step ((first | (go_at_call 134; exact Pure.via (HMK.out _ _ (h1.via _))) | (go_at_call 70; exact Pure.via (HEN.out _)))))
          refine wpQuiet_nil ?_
          intro _ hw'
          obtain ⟨uq, hw''⟩ := hw'
          subst hw''
          have h2 := h1.via uq
          have x2 := x1.below (via_below _ uq)
          generalize via W1 uq = W2 at *
          clear h1 x1 v5 HMK HEN
          go_upto_region 6 with fail
          have hb := h2
          unfold wkBlk at hb
          have k2 : W2.cell? ⟨b, 2, none⟩ = some ((Value.int .i64) c.a.page) := hb.cell 2
          have k5 : W2.cell? ⟨b, 5, none⟩ = some ((Value.int .i64) c.level) := hb.cell 5
          have k6 : W2.cell? ⟨b, 6, none⟩ = some ((Value.int .i64) c.t) := hb.cell 6
          have k7 : W2.cell? ⟨b, 7, none⟩ = some ((Value.int .u64) c.w) := hb.cell 7
          have kl := hb.lt
          clear hb
          have HK := Lib.hid (fun (w' : World) (P : HProp) (h : Has w' (wkBlk b root c c.w e0 * P)) => (by
            unfold wkBlk at h
            exact ⟨h.cell 2, h.cell 5, h.cell 6, h.cell 7⟩ : w'.cell? ⟨b, 2, none⟩ = some ((Value.int .i64) c.a.page) ∧ w'.cell? ⟨b, 5, none⟩ = some ((Value.int .i64) c.level) ∧ w'.cell? ⟨b, 6, none⟩ = some ((Value.int .i64) c.t) ∧ w'.cell? ⟨b, 7, none⟩ = some ((Value.int .u64) c.w)))
          have h3 : Has W2.drew (framesAt f s * (wkBlk b root c c.w e0 * (blk X0 #[Value.bool false, (Value.int .i64) 0, (Value.int .i64) 0, (Value.int .i64) 0, (Value.int .i64) 0, (Value.int .i64) 0, (Value.int .i64) 0, (Value.int .i64) 0, Value.bool false] 180 * R))) := Has.drew (h2.eq (by ac_rfl))
          go_region_held3 (fun w' => w'.cell? ⟨b, 2, none⟩ = some ((Value.int .i64) c.a.page) ∧ w'.cell? ⟨b, 5, none⟩ = some ((Value.int .i64) c.level) ∧ w'.cell? ⟨b, 6, none⟩ = some ((Value.int .i64) c.t) ∧ w'.cell? ⟨b, 7, none⟩ = some ((Value.int .u64) c.w)) (first | (with_reducible exact HK.out _ _ h4.right) | go_keep) (first | (go_at_call 62; (with_reducible refine (HI.out _).mono ?_); rintro e2 w3 ⟨rfl, rfl⟩) | (go_at_call 135; (with_reducible refine (HSW.out _ _ h3).mono ?_); rintro e2 w4 ⟨rfl, h4, x4⟩))
          have x5 := x2.drew.trans x4
          clear h2 h3 x2 x4 k2 k5 k6 k7 kl HK HI HSW
          have h5 := h4.right
          unfold wkBlk at h5
          have k6 : w4.cell? ⟨b, 6, none⟩ = some ((Value.int .i64) c.t) := h5.cell 6
          have kl := h5.lt
          clear h5
          go_wp2_with fail
          refine (HTK.out _ _ h4).mono ?_; rintro e2 w6 ⟨rfl, rfl⟩
          go_wp2_with fail
          refine (HAG.out _ _ (walkerAt_shut HM.out h4.p2)).mono ?_; rintro e2 w6 ⟨rfl, h6, x6⟩
          have h7 : Has w6 (blk X0 #[Value.bool false, (Value.int .i64) 0, (Value.int .i64) 0, (Value.int .i64) 0, (Value.int .i64) 0, (Value.int .i64) 0, (Value.int .i64) 0, (Value.int .i64) 0, Value.bool false] 180 * (walkerAt b root (c.again root) * (framesAt f s * R))) := h6.eq (by ac_rfl)
          have x7 := x5.trans x6
          obtain ⟨r0, r1, r2, r3, r4, r5, r6, r7, r8⟩ := h7.cells9
          obtain ⟨g0, g1, g2, g3, g4, g5, g6, g7, g8⟩ := h7.frees9
          have rl := h7.lt
          clear h4 h6 k6 kl HTK x5 x6 HAG
          go_wp2_with fail
          refine ret_via (fun wz => Has wz (blk X0 #[Value.bool false, (Value.int .i64) 0, (Value.int .i64) 0, (Value.int .i64) 0, (Value.int .i64) 0, (Value.int .i64) 0, (Value.int .i64) 0, (Value.int .i64) 0, Value.bool false] 180 * (walkerAt b root (c.again root) * (framesAt f s * R))) ∧ Ext W wz) ⟨h7.set9 _ _ _ _ _ _ _ _ _, by (repeat (first | with_reducible assumption | with_reducible exact Ext.refl _ | with_reducible refine Ext.set ?_ _ _ | with_reducible refine Ext.alloc ?_ _ | with_reducible refine Ext.drew ?_ | with_reducible refine Ext.drewN ?_ _ | assumption | exact Ext.refl _ | refine Ext.alloc ?_ _ | refine Ext.set ?_ _ _ | refine Ext.drew ?_ | refine Ext.drewN ?_ _ | refine Ext.below ?_ (by assumption) | refine Ext.trans ?_ (by assumption)))⟩ ?_
          rintro wz ⟨hz, xz⟩
          exact bodyPost_ret (results_ct Try.results116 rfl rfl (load_result hz)) rfl ⟨by rw [hy.out]; rfl, by rw [hy.out]; exact hz.right, xz⟩
        case pos =>
          have hy := Lib.hid (hstep.trans (if_neg (fun h => h hw)))
          have hsb : swapB s c.t (index c.a.page c.level) c.w = true := by unfold swapB; rw [hhw, ht, ← hword]; simpa using hw
          have HSW := Lib.hid (fun R X h => swapF f s c.t (index c.a.page c.level) (encW (markE (decE c.w c.level) c.a) c.level) c.w R X h)
          have hss : swapS s c.t (index c.a.page c.level) c.w (encW (markE (decE c.w c.level) c.a) c.level) = s.setW c.t.toNat (index c.a.page c.level).toNat (encW (markE (decE c.w c.level) c.a) c.level) := by unfold swapS; rw [hsb]; rfl
          rw [hsb, hss] at HSW
          have HRS' := Lib.hid (HRS.out (s.setW c.t.toNat (index c.a.page c.level).toNat (encW (markE (decE c.w c.level) c.a) c.level)))
          clear HRS
          have HR0 : Hid ((stepC s root c).r = ⟨true, answer (leafMap (decE c.w c.level) c.level c.a.page) c.a, ⟨leafMap (decE c.w c.level) c.level c.a.page, (markE (decE c.w c.level) c.a).dirty⟩⟩ ∧ (stepC s root c).c = c.idle ∧ (stepC s root c).code = 0 ∧ (stepC s root c).s = s.setW c.t.toNat (index c.a.page c.level).toNat (encW (markE (decE c.w c.level) c.a) c.level)) := Lib.hid (by
            rw [hy.out]
            exact ⟨HRS'.out, rfl, rfl, rfl⟩)
          clear hstep ht hsb hss hword hhw hp hon hmk hst hmk0 hs hc HRS' hw hy
          generalize s.setW c.t.toNat (index c.a.page c.level).toNat (encW (markE (decE c.w c.level) c.a) c.level) = s' at *
          generalize encW (markE (decE c.w c.level) c.a) c.level = x at *
          generalize answer (leafMap (decE c.w c.level) c.level c.a.page) c.a = an at *
          generalize leafMap (decE c.w c.level) c.level c.a.page = lm at *
          generalize markE (decE c.w c.level) c.a = me at *
          generalize decE c.w c.level = e0 at *
          generalize index c.a.page c.level = ix at *
          go_enter Try.func116, Try.ntmps116
          go_upto_region 5 with fail
          generalize W.alloc (.cells #[Value.bool false, (Value.int .i64) 0, (Value.int .i64) 0, (Value.int .i64) 0, (Value.int .i64) 0, (Value.int .i64) 0, (Value.int .i64) 0, (Value.int .i64) 0, Value.bool false] 180) = W1 at *
          generalize W.heap.size = X0 at *
          clear k1 kl
          have hb := h1
          unfold wkBlk at hb
          have v5 := via_cell (hb.cell 5)
          clear hb
          refine wp_region_via (by kernel_rfl) (by kernel_rfl) ?_
          repeat (first | go_big_quiet_step ((first | (go_at_call 134; exact Pure.via (HMK.out _ _ (h1.via _))) | (go_at_call 70; exact Pure.via (HEN.out _)))) | quiet_step ((first | (go_at_call 134; exact Pure.via (HMK.out _ _ (h1.via _))) | (go_at_call 70; exact Pure.via (HEN.out _)))))
          refine wpQuiet_nil ?_
          intro _ hw'
          obtain ⟨uq, hw''⟩ := hw'
          subst hw''
          have h2 := h1.via uq
          have x2 := x1.below (via_below _ uq)
          generalize via W1 uq = W2 at *
          clear h1 x1 v5 HMK HEN
          go_upto_region 6 with fail
          have hb := h2
          unfold wkBlk at hb
          have k2 : W2.cell? ⟨b, 2, none⟩ = some ((Value.int .i64) c.a.page) := hb.cell 2
          have k5 : W2.cell? ⟨b, 5, none⟩ = some ((Value.int .i64) c.level) := hb.cell 5
          have k6 : W2.cell? ⟨b, 6, none⟩ = some ((Value.int .i64) c.t) := hb.cell 6
          have k7 : W2.cell? ⟨b, 7, none⟩ = some ((Value.int .u64) c.w) := hb.cell 7
          have kl := hb.lt
          clear hb
          have HK := Lib.hid (fun (w' : World) (P : HProp) (h : Has w' (wkBlk b root c c.w e0 * P)) => (by
            unfold wkBlk at h
            exact ⟨h.cell 2, h.cell 5, h.cell 6, h.cell 7⟩ : w'.cell? ⟨b, 2, none⟩ = some ((Value.int .i64) c.a.page) ∧ w'.cell? ⟨b, 5, none⟩ = some ((Value.int .i64) c.level) ∧ w'.cell? ⟨b, 6, none⟩ = some ((Value.int .i64) c.t) ∧ w'.cell? ⟨b, 7, none⟩ = some ((Value.int .u64) c.w)))
          have h3 : Has W2.drew (framesAt f s * (wkBlk b root c c.w e0 * (blk X0 #[Value.bool false, (Value.int .i64) 0, (Value.int .i64) 0, (Value.int .i64) 0, (Value.int .i64) 0, (Value.int .i64) 0, (Value.int .i64) 0, (Value.int .i64) 0, Value.bool false] 180 * R))) := Has.drew (h2.eq (by ac_rfl))
          go_region_held3 (fun w' => w'.cell? ⟨b, 2, none⟩ = some ((Value.int .i64) c.a.page) ∧ w'.cell? ⟨b, 5, none⟩ = some ((Value.int .i64) c.level) ∧ w'.cell? ⟨b, 6, none⟩ = some ((Value.int .i64) c.t) ∧ w'.cell? ⟨b, 7, none⟩ = some ((Value.int .u64) c.w)) (first | (with_reducible exact HK.out _ _ h4.right) | go_keep) (first | (go_at_call 62; (with_reducible refine (HI.out _).mono ?_); rintro e2 w3 ⟨rfl, rfl⟩) | (go_at_call 135; (with_reducible refine (HSW.out _ _ h3).mono ?_); rintro e2 w4 ⟨rfl, h4, x4⟩))
          have x5 := x2.drew.trans x4
          clear h2 h3 x2 x4 k2 k5 k6 k7 kl HK HI HSW
          go_wp2_with fail
          refine (HDN.out _ _ h4.p2).mono ?_; rintro e2 w6 ⟨rfl, h6, x6⟩
          have h7 : Has w6 (blk X0 #[Value.bool false, (Value.int .i64) 0, (Value.int .i64) 0, (Value.int .i64) 0, (Value.int .i64) 0, (Value.int .i64) 0, (Value.int .i64) 0, (Value.int .i64) 0, Value.bool false] 180 * (wkBlk b root c.idle c.w e0 * (framesAt f s' * R))) := h6.eq (by ac_rfl)
          have x7 := x5.trans x6
          obtain ⟨r0, r1, r2, r3, r4, r5, r6, r7, r8⟩ := h7.cells9
          obtain ⟨g0, g1, g2, g3, g4, g5, g6, g7, g8⟩ := h7.frees9
          have rl := h7.lt
          clear h4 h6 x5 x6 HDN
          go_wp2_with fail
          refine ret_via (fun wz => Has wz (blk X0 #[Value.bool true, (Value.int .i64) an.fin, (Value.int .i64) an.frame, (Value.int .i64) an.rights, (Value.int .i64) lm.page, (Value.int .i64) lm.size, (Value.int .i64) lm.frame, (Value.int .i64) lm.rights, Value.bool me.dirty] 180 * (wkBlk b root c.idle c.w e0 * (framesAt f s' * R))) ∧ Ext W wz) ⟨h7.set9 _ _ _ _ _ _ _ _ _, by (repeat (first | with_reducible assumption | with_reducible exact Ext.refl _ | with_reducible refine Ext.set ?_ _ _ | with_reducible refine Ext.alloc ?_ _ | with_reducible refine Ext.drew ?_ | with_reducible refine Ext.drewN ?_ _ | assumption | exact Ext.refl _ | refine Ext.alloc ?_ _ | refine Ext.set ?_ _ _ | refine Ext.drew ?_ | refine Ext.drewN ?_ _ | refine Ext.below ?_ (by assumption) | refine Ext.trans ?_ (by assumption)))⟩ ?_
          rintro wz ⟨hz, xz⟩
          exact bodyPost_ret (results_ct Try.results116 rfl rfl (load_result hz)) rfl ⟨by rw [HR0.out.1, HR0.out.2.2.1]; rfl, by rw [HR0.out.2.1, HR0.out.2.2.2]; exact walkerAt_shut (Mk.idle _ _ _) hz.right, xz⟩
end Go.Proofs.Ytegkimecdonfgaa
namespace Go.Proofs.Ytegkimecdonfgaa
open Go.RowKit
theorem upL_has (s : Ms) (p lw : Int) (sz : Nat) (u : Int) : ∀ l : List Int, (upL s p lw sz l).has u = s.has u
  | [] => rfl
  | [_] => rfl
  | _ :: k :: ks => upL_has s p lw sz u (k :: ks)
theorem upL_ok {s : Ms} (hs : s.Ok) (p : Int) {lw : Int} (hlw : 0 ≤ lw ∧ lw < 18446744073709551616) (sz : Nat) : ∀ l : List Int, (upL s p lw sz l).Ok
  | [] => hs
  | [_] => hs.setW _ _ hlw
  | _ :: k :: ks => (upL_ok hs p hlw sz (k :: ks)).setW _ _ (by unfold tabW; exact encW_u64 _ _)
/-- What Insert works on. -/
structure InsAt (s : Ms) (r : Int) (x : Mp) (n m sz : Nat) : Prop where
  code : (way s r x.page).code = 0
  hp : hasB x.page = true
  len : (way s r x.page).tabs.length = n + 1
  lev : (way s r x.page).lev = 3 - (n : Int)
  size : x.size = (sz : Int)
  sum : n + m + sz = 3
  fr : m ≤ s.frees.length
def allI (s : Ms) (r : Int) (x : Mp) (m : Nat) : List Int := (way s r x.page).tabs ++ tops s m
section
variable {s : Ms} {r : Int} {x : Mp} {n m sz : Nat}
theorem InsAt.all_len (h : InsAt s r x n m sz) : (allI s r x m).length = n + 1 + m := by
  unfold allI
  rw [List.length_append, h.len, tops_len]
theorem InsAt.all_has (h : InsAt s r x n m sz) (hs : s.Ok) : ∀ t ∈ allI s r x m, (takeN s m).has t = true := fun t ht => by
  obtain ⟨_, n', hn, _, _, hu⟩ := way_tabs h.code
  rcases List.mem_append.1 ht with ht | ht
  · exact takeN_has hs (hu t ht) m h.fr
  · have hl : 0 < (way s r x.page).tabs.length := by rw [h.len]; omega
    have := hu _ (List.getElem_mem hl)
    exact (tops_new hs (Ms.has_iff.1 this).2.2 m h.fr t ht).2
theorem InsAt.store (h : InsAt s r x n m sz) (hs : s.Ok) {σ : Ms} (hσ : ∀ u, σ.has u = (takeN s m).has u) {j : Nat} {t : Int} (hj : (allI s r x m)[j]? = some t) (v : Int) :
    storeS σ t (index x.page (3 - (j : Int))) v = σ.setW t.toNat (index x.page (3 - (j : Int))).toNat v := by
  obtain ⟨hl, e⟩ := List.getElem?_eq_some_iff.1 hj
  have hlen := h.all_len
  have := h.sum
  unfold storeS
  rw [if_pos (by rw [hasW_index h.hp (by omega) (by omega), hσ]; exact h.all_has hs t (e ▸ List.getElem_mem hl))]
theorem InsAt.last (h : InsAt s r x n m sz) {t : Int} (ht : (allI s r x m)[n + m]? = some t) (σ : Ms) (lw : Int) : upL σ x.page lw sz ((allI s r x m).drop (n + m)) = σ.setW t.toNat (index x.page (3 - ((n + m : Nat) : Int))).toNat lw := by
  obtain ⟨hl, e⟩ := List.getElem?_eq_some_iff.1 ht
  rw [List.drop_eq_getElem_cons hl, e, List.drop_eq_nil_of_le (by rw [h.all_len]; omega)]
  show σ.setW t.toNat (index x.page sz).toNat lw = _
  have := h.sum
  rw [show (3 : Int) - ((n + m : Nat) : Int) = (sz : Int) by omega]
theorem InsAt.step (h : InsAt s r x n m sz) {j : Nat} {t k : Int} (ht : (allI s r x m)[j]? = some t) (hk : (allI s r x m)[j + 1]? = some k) (σ : Ms) (lw : Int) :
    upL σ x.page lw sz ((allI s r x m).drop j) = (upL σ x.page lw sz ((allI s r x m).drop (j + 1))).setW t.toNat (index x.page (3 - (j : Int))).toNat (encW ⟨true, false, 7, false, false, k⟩ (3 - (j : Int))) := by
  obtain ⟨hl, e⟩ := List.getElem?_eq_some_iff.1 ht
  obtain ⟨hl2, e2⟩ := List.getElem?_eq_some_iff.1 hk
  have hlen := h.all_len
  have := h.sum
  have hd : (allI s r x m).drop j = t :: (allI s r x m).drop (j + 1) := by rw [List.drop_eq_getElem_cons hl, e]
  have hd2 : (allI s r x m).drop (j + 1) = k :: (allI s r x m).drop (j + 2) := by rw [List.drop_eq_getElem_cons hl2, e2]
  rw [hd, hd2]
  show (upL σ x.page lw sz (k :: (allI s r x m).drop (j + 2))).setW t.toNat (index x.page (sz + ((allI s r x m).drop (j + 2)).length + 1 : Nat)).toNat (tabW k (sz + ((allI s r x m).drop (j + 2)).length + 1)) = _
  have hz : sz + ((allI s r x m).drop (j + 2)).length + 1 = 3 - j := by rw [List.length_drop]; omega
  rw [hz]
  unfold tabW tabE
  rw [show ((3 - j : Nat) : Int) = 3 - (j : Int) by omega]
theorem InsAt.fin (h : InsAt s r x n m sz) (hs : s.Ok) (hc : insC s r x = 0) : upL (takeN s m) x.page (encW (leafE x) x.size) sz ((allI s r x m).drop n) = insS s r x := by
  have := h.sum
  obtain ⟨_, n', hn', _, _, hu⟩ := way_tabs h.code
  obtain ⟨t, ht⟩ : ∃ t, (way s r x.page).tabs[n]? = some t := ⟨_, List.getElem?_eq_getElem (by rw [h.len]; omega)⟩
  have hlast := last_get' h.len ht
  obtain ⟨hl, e⟩ := List.getElem?_eq_some_iff.1 ht
  unfold insS
  rw [if_pos hc, hlast, h.size, h.lev]
  have e1 : ((3 : Int) - (n : Int) - (sz : Int)).toNat = m := by omega
  have e2 : ((sz : Nat) : Int).toNat = sz := by omega
  rw [e1, e2, chain_up h.hp (by omega) m s t hs h.fr (hu t (e ▸ List.getElem_mem hl)) (by omega)]
  congr 1
  unfold allI
  rw [List.drop_append_of_le_length (by rw [h.len]; omega), List.drop_eq_getElem_cons (by rw [h.len]; omega), e, List.drop_eq_nil_of_le (by rw [h.len]; omega)]
  rfl
end
theorem check_hasB {x : Mp} (h : check x = 0) : hasB x.page = true ∧ ∃ z : Nat, x.size = z ∧ z ≤ 2 := by
  have hx := mapOk_of h
  have h0 := hx.p0
  have h1 := hx.p1
  have h2 := hx.sp
  refine ⟨by unfold hasB; simp; omega, ?_⟩
  rcases hx.size with ⟨e, _⟩ | ⟨e, _⟩ | ⟨e, _⟩
  · exact ⟨0, e, by omega⟩
  · exact ⟨1, e, by omega⟩
  · exact ⟨2, e, by omega⟩
end Go.Proofs.Ytegkimecdonfgaa
namespace Go.Proofs.Ytegkimecdonfgaa
open Go.RowKit
set_option maxRecDepth 100000
end Go.Proofs.Ytegkimecdonfgaa
namespace Go.Proofs.Ytegkimecdonfgaa
open Go.RowKit
set_option maxRecDepth 100000
end Go.Proofs.Ytegkimecdonfgaa
namespace Go.Proofs.Ytegkimecdonfgaa
open Go.RowKit
set_option maxRecDepth 100000
end Go.Proofs.Ytegkimecdonfgaa
namespace Go.Proofs.Ytegkimecdonfgaa
open Go.RowKit
set_option maxRecDepth 100000
end Go.Proofs.Ytegkimecdonfgaa
namespace Go.Proofs.Ytegkimecdonfgaa
open Go.RowKit
set_option maxRecDepth 100000
end Go.Proofs.Ytegkimecdonfgaa
namespace Go.Proofs.Ytegkimecdonfgaa
open Go.RowKit
set_option maxRecDepth 100000
theorem irow_at {w : World} {R : HProp} {A : Option Addr} {n c : Nat} {l : List Int} (h : Has w (irow (.slice A n c) l * R)) {k : Nat} (hk : k < l.length) :
    ∃ b, A = some ⟨b, 0, none⟩ ∧ b < w.heap.size ∧ w.cell? ⟨b, k, none⟩ = some ((Value.int .i64) l[k]) := by
  have hf := (Has.rowCases (e := 3) (size := 1) h)
  have hn : n = l.length := by
    rcases hf with ⟨hv, h0, _⟩ | ⟨g, cap, cur, hv, _⟩
    · injection hv with a b
      omega
    · injection hv
  subst hn
  obtain ⟨b, e, hb, hc, _⟩ := Has.rowGet (e := 3) (size := 1) h (i := k) (u := (Value.int .i64) l[k]) (by simp [hk])
  exact ⟨b, e, hb, hc⟩
theorem irow_len {w : World} {R : HProp} {A : Option Addr} {n c : Nat} {l : List Int} (h : Has w (irow (.slice A n c) l * R)) : n = l.length := by
  rcases (Has.rowCases (e := 3) (size := 1) h) with ⟨hv, h0, _⟩ | ⟨g, cap, cur, hv, _⟩
  · injection hv with a b
    omega
  · injection hv
theorem irow_small {w : World} {R : HProp} {A : Option Addr} {n c : Nat} {l : List Int} (h : Has w (irow (.slice A n c) l * R)) : n ≤ 9223372036854775807 := by
  obtain rfl := irow_len h
  exact (Has.rowLens (e := 3) (size := 1) h).2
theorem irow_cap {w : World} {R : HProp} {A : Option Addr} {n c : Nat} {l : List Int} (h : Has w (irow (.slice A n c) l * R)) : n ≤ c ∧ c ≤ maxLen := by
  have hn := irow_len h
  rcases (Has.rowCases (e := 3) (size := 1) h) with ⟨hv, h0, _⟩ | ⟨g, cap, cur, hv, h1, h2, _⟩
  · injection hv with a b d
    subst d
    exact ⟨by omega, Nat.zero_le _⟩
  · injection hv with a b d
    subst d
    exact ⟨by omega, h2⟩
/-- The beginning of a row of numbers. -/
theorem irow_take {w : World} {R : HProp} {A : Option Addr} {n c : Nat} {l : List Int} (h : Has w (irow (.slice A n c) l * R)) (i : Nat) (hi : i ≤ l.length) : Rd w A i ((l.take i).map (Value.int .i64)) := by
  obtain rfl := irow_len h
  have hsm := irow_small h
  refine ⟨by simp; omega, by omega, fun j u hj => ?_⟩
  have hjl : j < ((l.take i).map (Value.int .i64)).length := (List.getElem?_eq_some_iff.1 hj).1
  have hjl : j < l.length := by simp at hjl; omega
  obtain ⟨b, rfl, hb, hc⟩ := irow_at h hjl
  refine ⟨b, 0, rfl, hb, ?_⟩
  rw [Nat.zero_add, hc]
  obtain ⟨_, e⟩ := List.getElem?_eq_some_iff.1 hj
  rw [← e]
  simp
end Go.Proofs.Ytegkimecdonfgaa
namespace Go.Proofs.Ytegkimecdonfgaa
open Go.RowKit
set_option maxRecDepth 100000
section
variable {P : Program} {fn : Func} {tmps : Array Value} {w : World}
/-- Three results: the first two in cells. -/
theorem results_cct {a b c : Nat} {t t' : TypeId} {p p' : Addr} {v u x : Value} (hr : fn.results = #[.cell a t, .cell b t', .tmp c]) (ha : tmps.getD a undef = .pointer (some p)) (hb : tmps.getD b undef = .pointer (some p')) (hc : tmps.getD c undef = x) (hl : (loadVar t p).run P w = .ok v w) (hl' : (loadVar t' p').run P w = .ok u w) :
    (results fn tmps).run P w = .ok (.tuple #[v, u, x]) w := by
  unfold results
  rw [hr]
  simp only [Array.getD_eq_getD_getElem?] at ha hb hc
  simp [asAddr, ha, hb, hc, hl, hl']
end
end Go.Proofs.Ytegkimecdonfgaa
namespace Go.Proofs.Ytegkimecdonfgaa
open Go.RowKit
set_option maxRecDepth 100000
theorem putB (b f : Nat) (t i l : Int) (v : Value) (e : En) (s : Ms) (R : HProp) (w : World) (h : Has w (blk b #[.pointer (some ⟨f, 0, none⟩), v] 107 * (framesAt f s * R))) :
    Calls Try.prog 63 #[.pointer (some ⟨b, 0, none⟩), (Value.int .i64) t, (Value.int .i64) i, (Value.int .i64) l, .agg #[Value.bool e.there, Value.bool e.leaf, (Value.int .i64) e.rights, Value.bool e.used, Value.bool e.dirty, (Value.int .i64) e.frame]] w (Res (.tuple #[]) (blk b #[.pointer (some ⟨f, 0, none⟩), v] 107 * (framesAt f (storeS s t i (encW e l)) * R)) w) := by
  have h1 := h.new #[Value.bool e.there, Value.bool e.leaf, (Value.int .i64) e.rights, Value.bool e.used, Value.bool e.dirty, (Value.int .i64) e.frame] 50
  have x1 := (Ext.refl w).alloc (.cells #[Value.bool e.there, Value.bool e.leaf, (Value.int .i64) e.rights, Value.bool e.used, Value.bool e.dirty, (Value.int .i64) e.frame] 50)
  have HE := Lib.hid (encode_any e l)
  have HS := Lib.hid (fun R w h => storeF f s t i (encW e l) R w h)
  generalize storeS s t i (encW e l) = s' at *
  generalize s.hasW t i = ok at *
  generalize encW e l = wd at *
  generalize entFault e l = ff at *
  clear h
  obtain ⟨c0, c1, c2, c3, c4, c5⟩ := h1.cells6
  go_enter Try.func63, Try.ntmps63
  go_wp2_with fail
  refine (HE.out _).mono ?_; rintro e2 w2 ⟨rfl, b2⟩
  have h2 := h1.below b2
  have x2 := x1.below b2
  clear h1 x1 c0 c1 c2 c3 c4 c5
  obtain ⟨b0, b1⟩ := h2.right.cells2
  have bl := h2.right.lt
  go_wp2_with fail
  refine (HS.out _ _ (h2.eq (show _ = framesAt f s * (blk b #[.pointer (some ⟨f, 0, none⟩), v] 107 * (blk w.heap.size #[Value.bool e.there, Value.bool e.leaf, (Value.int .i64) e.rights, Value.bool e.used, Value.bool e.dirty, (Value.int .i64) e.frame] 50 * R)) by ac_rfl))).mono ?_; rintro e3 w3 ⟨rfl, h3, x3⟩
  have h4 := h3.eq (show _ = blk w.heap.size #[Value.bool e.there, Value.bool e.leaf, (Value.int .i64) e.rights, Value.bool e.used, Value.bool e.dirty, (Value.int .i64) e.frame] 50 * (blk b #[.pointer (some ⟨f, 0, none⟩), v] 107 * (framesAt f s' * R)) by ac_rfl)
  go_wp2_with fail
  exact bodyPost_ret (v := .tuple #[]) (by simp [results, Try.results63]) rfl ⟨rfl, h4.right, x2.trans x3⟩
def emptyV (s : Ms) (t : Int) : Bool := (List.range 8).all fun (i : Nat) => loadV s t i == 0
theorem emptyV_eq {s : Ms} {t : Int} (h : s.has t = true) : emptyV s t = allZ s t := by
  unfold emptyV allZ
  have e : ∀ i ∈ List.range 8, (loadV s t ((i : Nat) : Int) == 0) = (wordV s t ((i : Nat) : Int) == 0) := fun i hi => by
    have hi := List.mem_range.1 hi
    have hw : s.hasW t ((i : Nat) : Int) = true := hasW_iff.2 ⟨h, by omega, by omega⟩
    unfold loadV wordV
    rw [if_pos hw]
  rw [Bool.eq_iff_iff, List.all_eq_true, List.all_eq_true]
  constructor
  · intro hh x hx
    rw [← e x hx]; exact hh x hx
  · intro hh x hx
    rw [e x hx]; exact hh x hx
theorem emptyT (f : Nat) (t : Int) (s : Ms) (R : HProp) (w : World) (h : Has w (framesAt f s * R)) : Calls Try.prog 69 #[.pointer (some ⟨f, 0, none⟩), (Value.int .i64) t] w (Same (Value.bool (emptyV s t)) w) := by
  have HL := Lib.hid (fun (i : Int) => loadF f s t i R w h)
  have hyy : ∀ i : Nat, i < 8 → emptyV s t = true → loadV s t i = 0 := fun i hi he => by
    unfold emptyV at he
    rw [List.all_eq_true] at he
    simpa using he i (List.mem_range.2 hi)
  have hnn : ∀ i : Nat, i < 8 → loadV s t i ≠ 0 → emptyV s t = false := fun i hi hn => by
    cases he : emptyV s t with
    | false => rfl
    | true => exact absurd (hyy i hi he) hn
  have hall : (∀ i : Nat, i < 8 → loadV s t i = 0) → emptyV s t = true := fun hh => by
    unfold emptyV
    rw [List.all_eq_true]
    intro x hx
    simpa using hh x (List.mem_range.1 hx)
  have HNN := Lib.hid hnn
  have HALL := Lib.hid hall
  have HW := Lib.hid h
  clear hyy hnn hall h
  generalize emptyV s t = ev at *
  go_enter Try.func69, Try.ntmps69
  go_wp2_with fail
  go_loopw [8] (fun t8 wr => ∃ i : Nat, i ≤ 8 ∧ t8 = (Value.int .i64) i ∧ Hid (∀ j : Nat, j < i → loadV s t j = 0) ∧ w = wr) (fun t8 _ => 8 - (intOf t8).toNat)
  case atStart => exact ⟨0, by omega, rfl, Lib.hid (fun j hj => by omega), rfl⟩
  case round =>
    obtain ⟨i, hi, rfl, HZ, rfl⟩ := hrel
    by_cases hlt : i < 8
    · have hL := Lib.hid (HL.out (i : Int))
      have hlt' : (i : Int) < 8 := by omega
      by_cases hz : loadV s t (i : Int) = 0
      · rw [hz] at hL
        have HZ' := Lib.hid (show ∀ j : Nat, j < i + 1 → loadV s t j = 0 from fun j hj => by
          by_cases e : j = i
          · subst e; exact hz
          · exact HZ.out j (by omega))
        clear hz
        generalize s.hasW t (i : Int) = hw at *
        go_wp2_with fail
        refine hL.out.mono ?_; rintro e2 w2 ⟨rfl, rfl⟩
        go_wp2_with fail
        go_roundw
        case rel => exact ⟨i + 1, by omega, by go_num, HZ', trivial⟩
        case measure => simp [intOf]; omega
      · have hev := HNN.out i hlt hz
        have hne : (loadV s t (i : Int) != 0) = true := by simpa using hz
        subst hev
        clear hz
        generalize s.hasW t (i : Int) = hw at *
        generalize loadV s t (i : Int) = lv at *
        go_wp2_with fail
        refine hL.out.mono ?_; rintro e2 w2 ⟨rfl, rfl⟩
        go_wp2_with fail
        go_ret
        exact ⟨rfl, rfl⟩
    · obtain rfl : i = 8 := by omega
      have hev := HALL.out HZ.out
      subst hev
      go_wp2_with fail
      go_ret
      exact ⟨rfl, rfl⟩
end Go.Proofs.Ytegkimecdonfgaa
namespace Go.Proofs.Ytegkimecdonfgaa
open Go.RowKit
/-- From where the word in the k-th table is gone already. -/
def cutT (p : Int) (tabs : List Int) : Nat → Ms → Ms × List Int
  | 0, s => (s, [])
  | k + 1, s =>
    if allZ s (tabs.getD (k + 1) 0) = true then
      ((cutT p tabs k (s.setW (tabs.getD k 0).toNat (index p (3 - k : Nat)).toNat 0)).1, tabs.getD (k + 1) 0 :: (cutT p tabs k (s.setW (tabs.getD k 0).toNat (index p (3 - k : Nat)).toNat 0)).2)
    else (s, [])
theorem cutR_T (p : Int) (tabs : List Int) : ∀ (k : Nat) (s : Ms), cutR p tabs k s = cutT p tabs k (s.setW (tabs.getD k 0).toNat (index p (3 - k : Nat)).toNat 0)
  | 0, s => rfl
  | k + 1, s => by
    show (if allZ (s.setW (tabs.getD (k + 1) 0).toNat (index p (3 - (k + 1) : Nat)).toNat 0) (tabs.getD (k + 1) 0) = true then _ else _) = (if _ then _ else _)
    rw [cutR_T p tabs k]
theorem cutT_no (p : Int) (tabs : List Int) {k : Nat} {s : Ms} (h : k = 0 ∨ allZ s (tabs.getD k 0) = false) : cutT p tabs k s = (s, []) := by
  cases k with
  | zero => rfl
  | succ k =>
    rcases h with h | h
    · cases h
    · unfold cutT
      rw [if_neg (by rw [h]; simp)]
theorem cutT_yes (p : Int) (tabs : List Int) {k j : Nat} {s : Ms} (hk : k = j + 1) (h : allZ s (tabs.getD k 0) = true) :
    cutT p tabs k s = ((cutT p tabs j (s.setW (tabs.getD j 0).toNat (index p (3 - j : Nat)).toNat 0)).1, tabs.getD k 0 :: (cutT p tabs j (s.setW (tabs.getD j 0).toNat (index p (3 - j : Nat)).toNat 0)).2) := by
  subst hk
  conv => lhs; unfold cutT
  rw [if_pos h]
end Go.Proofs.Ytegkimecdonfgaa
namespace Go.Proofs.Ytegkimecdonfgaa
open Go.RowKit
theorem Agree.takeS {s s' : Ms} (h : Agree s s') : Agree s.takeS s'.takeS := by
  have ht := h.top
  cases hk : s.top with
  | none =>
    have e1 : s.takeS = s := by unfold Ms.takeS; rw [hk]
    have e2 : s'.takeS = s' := by unfold Ms.takeS; rw [← ht, hk]
    rw [e1, e2]; exact h
  | some k =>
    have hk' : s'.top = some k := by rw [← ht]; exact hk
    have e1 : s.takeS = s.take k := by unfold Ms.takeS; rw [hk]
    have e2 : s'.takeS = s'.take k := by unfold Ms.takeS; rw [hk']
    have f1 := takeS_frees hk
    have f2 := takeS_frees hk'
    rw [h.fr] at f1
    rw [e1] at f1 ⊢
    rw [e2] at f2 ⊢
    refine ⟨h.n, fun j => ?_, List.append_cancel_right (f1.trans f2.symm), fun j i hj => ?_⟩
    · show fput s.tk k true j = fput s'.tk k true j
      unfold fput
      rw [h.tk]
    · show (if j = k then (0 : Int) else s.wd j i) = (if j = k then (0 : Int) else s'.wd j i)
      by_cases e : j = k
      · rw [if_pos e, if_pos e]
      · rw [if_neg e, if_neg e]
        have hj : fput s.tk k true j = true := hj
        rw [fput_ne _ _ e] at hj
        exact h.wd j i hj
theorem Agree.takeN {s s' : Ms} (h : Agree s s') : ∀ m, Agree (takeN s m) (takeN s' m)
  | 0 => h
  | m + 1 => (Agree.takeN h m).takeS
theorem Agree.chain {p lw : Int} {sz : Nat} : ∀ (m : Nat) (s s' : Ms) (t : Int), Agree s s' → Agree (chain s p lw sz m t) (chain s' p lw sz m t)
  | 0, _, _, _, h => h.setW _ _ _
  | m + 1, s, s', t, h => by
    have ht := h.top
    unfold Go.Proofs.Ytegkimecdonfgaa.chain
    rw [← ht]
    cases hk : s.top with
    | none => exact h
    | some k =>
      have hk' : s'.top = some k := by rw [← ht]; exact hk
      have e1 : s.takeS = s.take k := by unfold Ms.takeS; rw [hk]
      have e2 : s'.takeS = s'.take k := by unfold Ms.takeS; rw [hk']
      have h2 := h.takeS
      rw [e1, e2] at h2
      exact Agree.chain m _ _ _ (h2.setW _ _ _)
section
variable {s s' : Ms}
theorem Agree.insS (h : Agree s s') (r : Int) (x : Mp) : Agree (insS s r x) (insS s' r x) := by
  unfold Go.Proofs.Ytegkimecdonfgaa.insS
  rw [← h.insC r x, ← h.way r x.page]
  split
  · exact Agree.chain _ _ _ _ h
  · exact h
theorem Agree.allZ (h : Agree s s') {t : Int} (ht : s.has t = true) : allZ s t = allZ s' t := by
  have e : ∀ i : Nat, wordV s t i = wordV s' t i := fun i => h.word ht i
  unfold Go.Proofs.Ytegkimecdonfgaa.allZ
  simp only [e]
theorem Agree.cutR {p : Int} {tabs : List Int} : ∀ (k : Nat) (s s' : Ms), Agree s s' → (∀ j, j ≤ k → s.has (tabs.getD j 0) = true) → Agree (cutR p tabs k s).1 (cutR p tabs k s').1 ∧ (cutR p tabs k s).2 = (cutR p tabs k s').2
  | 0, _, _, h, _ => ⟨h.setW _ _ _, rfl⟩
  | k + 1, s, s', h, hu => by
    have h1 : Agree (s.setW (tabs.getD (k + 1) 0).toNat (index p (3 - (k + 1) : Nat)).toNat 0) (s'.setW (tabs.getD (k + 1) 0).toNat (index p (3 - (k + 1) : Nat)).toNat 0) := h.setW _ _ _
    have hz := h1.allZ (t := tabs.getD (k + 1) 0) (hu _ (Nat.le_refl _))
    obtain ⟨i1, i2⟩ := Agree.cutR (p := p) (tabs := tabs) k _ _ h1 (fun j hj => hu j (by omega))
    unfold Go.Proofs.Ytegkimecdonfgaa.cutR
    rw [← hz]
    split
    · exact ⟨i1, by rw [i2]⟩
    · exact ⟨h1, rfl⟩
theorem Agree.rem (h : Agree s s') (r p : Int) : Agree (remS s r p) (remS s' r p) ∧ remG s r p = remG s' r p := by
  unfold remS remG
  rw [← h.findC r p, ← h.way r p]
  by_cases hf : Go.Proofs.Ytegkimecdonfgaa.findC s r p = 0
  · rw [if_pos hf, if_pos hf, if_pos hf, if_pos hf]
    have hcode : (Go.Proofs.Ytegkimecdonfgaa.way s r p).code = 0 := by
      unfold Go.Proofs.Ytegkimecdonfgaa.findC at hf
      split at hf
      · rename_i hn; exact absurd hf hn
      · rename_i hn; simpa using hn
    obtain ⟨_, n, hn, _, _, hu⟩ := way_tabs hcode
    rw [hn, Nat.add_sub_cancel]
    refine Agree.cutR n s s' h fun j hj => ?_
    rw [List.getD_eq_getElem?_getD, List.getElem?_eq_getElem (by omega)]
    exact hu _ (List.getElem_mem _)
  · rw [if_neg hf, if_neg hf, if_neg hf, if_neg hf]
    exact ⟨h, rfl⟩
theorem Agree.pr (h : Agree s s') (r p ri : Int) : Agree (prS s r p ri) (prS s' r p ri) ∧ prC s r p ri = prC s' r p ri ∧ prM s r p ri = prM s' r p ri := by
  have hc : prC s r p ri = prC s' r p ri := by unfold prC; rw [h.findC]
  refine ⟨?_, hc, ?_⟩
  · unfold prS
    rw [← hc, ← h.way r p]
    split
    · exact h.setW _ _ _
    · exact h
  · unfold prM
    rw [← hc, ← h.findM r p]
end
/-- Removing keeps the law of a memory. -/
theorem cutR_ok2 {p : Int} {tabs : List Int} : ∀ (k : Nat) {s : Ms}, s.Ok → (cutR p tabs k s).1.Ok
  | 0, _, h => h.setW _ _ ⟨by omega, by omega⟩
  | k + 1, _, h => by
    unfold Go.Proofs.Ytegkimecdonfgaa.cutR
    split
    · exact cutR_ok2 k (h.setW _ _ ⟨by omega, by omega⟩)
    · exact h.setW _ _ ⟨by omega, by omega⟩
theorem remS_ok {s : Ms} (h : s.Ok) (r p : Int) : (remS s r p).Ok := by
  unfold remS
  split
  · exact cutR_ok2 _ h
  · exact h
theorem prS_ok {s : Ms} (h : s.Ok) (r p ri : Int) : (prS s r p ri).Ok := by
  unfold prS
  split
  · exact h.setW _ _ (encW_u64 _ _)
  · exact h
end Go.Proofs.Ytegkimecdonfgaa
namespace Go.Proofs.Ytegkimecdonfgaa
open Go.RowKit
set_option maxRecDepth 100000
/-- A Shoot at block p: what was told, and who waits. -/
def shootAt (p : Nat) (m : Mp) (ws : Nat → Bool) : HProp :=
  blk p #[(Value.int .i64) m.page, (Value.int .i64) m.size, (Value.int .i64) m.frame, (Value.int .i64) m.rights, Value.bool (ws 0), Value.bool (ws 1), Value.bool (ws 2), Value.bool (ws 3)] 168
def overB (ws : Nat → Bool) : Bool := !ws 0 && (!ws 1 && (!ws 2 && !ws 3))
theorem over_any (p : Nat) (m : Mp) (ws : Nat → Bool) (R : HProp) (w : World) (h : Has w (shootAt p m ws * R)) :
    Calls Try.prog 120 #[.pointer (some ⟨p, 0, none⟩)] w fun e w' => e = .returned (Value.bool (overB ws)) ∧ w = w' := by
  have c4 : w.cell? ⟨p, 4, none⟩ = some (Value.bool (ws 0)) := h.cell 4
  have c5 : w.cell? ⟨p, 5, none⟩ = some (Value.bool (ws 1)) := h.cell 5
  have c6 : w.cell? ⟨p, 6, none⟩ = some (Value.bool (ws 2)) := h.cell 6
  have c7 : w.cell? ⟨p, 7, none⟩ = some (Value.bool (ws 3)) := h.cell 7
  go_enter Try.func120, Try.ntmps120
  go_wp2
  go_ret
  exact ⟨rfl, rfl⟩
def waitsB (ws : Nat → Bool) (k : Int) : Bool := decide (0 ≤ k) && (decide (k < 4) && ws k.toNat)
theorem shoot_cell {p : Nat} {m : Mp} {ws : Nat → Bool} {R : HProp} {w : World} (h : Has w (shootAt p m ws * R)) (k : Nat) (hk : k < 4) : w.cell? ⟨p, 4 + k, none⟩ = some (Value.bool (ws k)) := by
  rw [h.cell (4 + k)]
  match k, hk with
  | 0, _ | 1, _ | 2, _ | 3, _ => rfl
theorem waits_no {ws : Nat → Bool} {k : Int} (h : ¬ (0 ≤ k ∧ k < 4)) : waitsB ws k = false := by
  unfold waitsB
  by_cases h0 : 0 ≤ k <;> by_cases h4 : k < 4 <;> simp [h0, h4]
  omega
theorem waits_yes {ws : Nat → Bool} {k : Nat} (h : k < 4) : waitsB ws k = ws k := by
  unfold waitsB
  have h4 : (k : Int) < 4 := by omega
  simp [h4]
theorem waits_any (p : Nat) (m : Mp) (ws : Nat → Bool) (k : Int) (R : HProp) (w : World) (h : Has w (shootAt p m ws * R)) :
    Calls Try.prog 139 #[.pointer (some ⟨p, 0, none⟩), .int .i64 k] w fun e w' => e = .returned (Value.bool (waitsB ws k)) ∧ w = w' := by
  by_cases h0 : 0 ≤ k
  · by_cases h4 : k < 4
    · obtain ⟨k, rfl⟩ := Int.eq_ofNat_of_zero_le h0
      have hc := shoot_cell h k (by omega)
      have hy := Lib.hid (waits_yes (ws := ws) (k := k) (by omega))
      go_enter Try.func139, Try.ntmps139
      go_wp2
      go_ret
      exact ⟨by rw [hy.out]; rfl, rfl⟩
    · have hy := Lib.hid (waits_no (ws := ws) (k := k) (by omega))
      go_enter Try.func139, Try.ntmps139
      go_wp2
      go_ret
      exact ⟨by rw [hy.out]; rfl, rfl⟩
  · have hy := Lib.hid (waits_no (ws := ws) (k := k) (by omega))
    go_enter Try.func139, Try.ntmps139
    go_wp2
    go_ret
    exact ⟨by rw [hy.out]; rfl, rfl⟩
theorem new_shoot (R : HProp) (w : World) (h : Has w R) :
    Calls Try.prog 85 #[] w fun e w' => ∃ p, e = .returned (.pointer (some ⟨p, 0, none⟩)) ∧ Has w' (shootAt p Mp.zero (fun _ => false) * R) ∧ Ext w w' := by
  have h1 := h.new #[(Value.int .i64) 0, (Value.int .i64) 0, (Value.int .i64) 0, (Value.int .i64) 0, Value.bool false, Value.bool false, Value.bool false, Value.bool false] 168
  go_enter Try.func85, Try.ntmps85
  go_wp2
  go_ret
  exact ⟨_, rfl, h1, (Ext.refl w).alloc _⟩
/-- What is waited for behind an Ack by core k. -/
def ackW (ws : Nat → Bool) (k : Nat) : Nat → Bool := fun i => if i = k then false else ws i
theorem ack_cells {p : Nat} {m : Mp} {ws : Nat → Bool} {R : HProp} {w : World} (h : Has w (shootAt p m ws * R)) (k : Nat) (hk : k < 4) (b : Bool) :
    Has (w.setCell ⟨p, 4 + k, none⟩ (Value.bool b)) (shootAt p m (fun i => if i = k then b else ws i) * R) := by
  have h1 := h.set (4 + k) (Value.bool b)
  match k, hk, h1 with
  | 0, _, h1 | 1, _, h1 | 2, _, h1 | 3, _, h1 => exact h1
theorem ack_yes (p : Nat) (m : Mp) (ws : Nat → Bool) (k : Int) (R : HProp) (w : World) (h : Has w (shootAt p m ws * R)) (hw : waitsB ws k = true) :
    Calls Try.prog 118 #[.pointer (some ⟨p, 0, none⟩), .int .i64 k] w (Res (.tuple #[m.val, Value.bool true]) (shootAt p m (ackW ws k.toNat) * R) w) := by
  have c0 : w.cell? ⟨p, 0, none⟩ = some ((Value.int .i64) m.page) := h.cell 0
  have c1 : w.cell? ⟨p, 1, none⟩ = some ((Value.int .i64) m.size) := h.cell 1
  have c2 : w.cell? ⟨p, 2, none⟩ = some ((Value.int .i64) m.frame) := h.cell 2
  have c3 : w.cell? ⟨p, 3, none⟩ = some ((Value.int .i64) m.rights) := h.cell 3
  have hlt : p < w.heap.size := h.lt
  have ha := h.alloc (.cells #[(Value.int .i64) 0, (Value.int .i64) 0, (Value.int .i64) 0, (Value.int .i64) 0] 24)
  have hk : 0 ≤ k ∧ k < 4 := by
    by_cases hk : 0 ≤ k ∧ k < 4
    · exact hk
    · rw [waits_no hk] at hw; cases hw
  obtain ⟨hk0, hk4⟩ := hk
  obtain ⟨k, rfl⟩ := Int.eq_ofNat_of_zero_le hk0
  have hf := h.free (4 + k)
  have hc := shoot_cell h k (by omega)
  have hs := ack_cells h k (by omega) false
  go_enter Try.func118, Try.ntmps118
  go_wp2_with (go_at_call 139; refine (waits_any p m ws _ _ _ ha).mono ?_; rintro e w' ⟨rfl, rfl⟩)
  exact bodyPost_ret (v := .tuple #[m.val, Value.bool true]) (by simp [results, Try.results118, go_sem]) rfl ⟨rfl, hs.alloc _, ((Ext.refl w).set _ _).alloc _⟩
theorem ack_no (p : Nat) (m : Mp) (ws : Nat → Bool) (k : Int) (R : HProp) (w : World) (h : Has w (shootAt p m ws * R)) (hw : waitsB ws k = false) :
    Calls Try.prog 118 #[.pointer (some ⟨p, 0, none⟩), .int .i64 k] w (Res (.tuple #[.agg #[(Value.int .i64) 0, (Value.int .i64) 0, (Value.int .i64) 0, (Value.int .i64) 0], Value.bool false]) (shootAt p m ws * R) w) := by
  have ha := h.alloc (.cells #[(Value.int .i64) 0, (Value.int .i64) 0, (Value.int .i64) 0, (Value.int .i64) 0] 24)
  go_enter Try.func118, Try.ntmps118
  go_wp2_with (go_at_call 139; refine (waits_any p m ws _ _ _ ha).mono ?_; rintro e w' ⟨rfl, rfl⟩)
  exact bodyPost_ret (v := .tuple #[.agg #[(Value.int .i64) 0, (Value.int .i64) 0, (Value.int .i64) 0, (Value.int .i64) 0], Value.bool false]) (by simp [results, Try.results118, go_sem]) rfl ⟨rfl, ha, (Ext.refl w).alloc _⟩
def postW (n : Nat) : Nat → Bool := fun i => decide (i < n)
theorem overB_all {ws : Nat → Bool} (h : overB ws = true) : ws 0 = false ∧ ws 1 = false ∧ ws 2 = false ∧ ws 3 = false := by
  unfold overB at h
  simpa using h
theorem post_step {p : Nat} {x : Mp} {j : Nat} {R : HProp} {w : World} (h : Has w (shootAt p x (postW j) * R)) (hj : j < 4) : Has (w.setCell ⟨p, 4 + j, none⟩ (Value.bool true)) (shootAt p x (postW (j + 1)) * R) := by
  have h1 := ack_cells h j hj true
  have e : (fun i => if i = j then true else postW j i) = postW (j + 1) := by
    funext i
    unfold postW
    by_cases hi : i = j
    · simp [hi]
    · simp only [hi, if_false]
      by_cases h2 : i < j <;> simp [h2] <;> omega
  rwa [e] at h1
theorem post_begin {p : Nat} {m x : Mp} {ws : Nat → Bool} {R : HProp} {w : World} (h : Has w (shootAt p m ws * R)) (ho : overB ws = true) :
    Has ((((w.setCell ⟨p, 0, none⟩ ((Value.int .i64) x.page)).setCell ⟨p, 1, none⟩ ((Value.int .i64) x.size)).setCell ⟨p, 2, none⟩ ((Value.int .i64) x.frame)).setCell ⟨p, 3, none⟩ ((Value.int .i64) x.rights)) (shootAt p x (postW 0) * R) := by
  obtain ⟨h0, h1, h2, h3⟩ := overB_all ho
  have := (((h.set 0 ((Value.int .i64) x.page)).set 1 ((Value.int .i64) x.size)).set 2 ((Value.int .i64) x.frame)).set 3 ((Value.int .i64) x.rights)
  rw [h0, h1, h2, h3] at this
  exact this
theorem post_yes (p : Nat) (m x : Mp) (ws : Nat → Bool) (k : Nat) (R : HProp) (w : World) (h : Has w (shootAt p m ws * R)) (ho : overB ws = true) (hk1 : 1 ≤ k) (hk4 : k ≤ 4) :
    Calls Try.prog 130 #[.pointer (some ⟨p, 0, none⟩), .agg #[(Value.int .i64) x.page, (Value.int .i64) x.size, (Value.int .i64) x.frame, (Value.int .i64) x.rights], .int .i64 k] w
      (Res (Value.bool true) (shootAt p x (postW k) * R) w) := by
  have hlt : p < w.heap.size := h.lt
  have ha := h.alloc (.cells #[(Value.int .i64) x.page, (Value.int .i64) x.size, (Value.int .i64) x.frame, (Value.int .i64) x.rights] 24)
  have hb := post_begin (x := x) h ho
  have f0 := h.free 0
  have f1 := h.free 1
  have f2 := h.free 2
  have f3 := h.free 3
  have c0 : w.cell? ⟨p, 0, none⟩ = some ((Value.int .i64) m.page) := h.cell 0
  have c1 : w.cell? ⟨p, 1, none⟩ = some ((Value.int .i64) m.size) := h.cell 1
  have c2 : w.cell? ⟨p, 2, none⟩ = some ((Value.int .i64) m.frame) := h.cell 2
  have c3 : w.cell? ⟨p, 3, none⟩ = some ((Value.int .i64) m.rights) := h.cell 3
  go_enter Try.func130, Try.ntmps130
  go_wp2_with (go_at_call 120; refine (over_any p m ws _ _ ha).mono ?_; rintro e w' ⟨rfl, rfl⟩)
  go_loopw [7, 24, 25, 26, 27, 28, 29, 30, 31, 32] (fun _ t _ _ _ _ _ _ _ _ wr => ∃ j : Nat, j ≤ k ∧ t = (Value.int .i64) j ∧ Has wr (shootAt p x (postW j) * R) ∧ Ext w wr) (fun _ t _ _ _ _ _ _ _ _ _ => k - (intOf t).toNat)
  case atStart => exact ⟨0, Nat.zero_le _, rfl, hb.alloc _, ((((Ext.refl w).set _ _).set _ _).set _ _).set _ _ |>.alloc _⟩
  case round =>
    obtain ⟨j, hj, rfl, hr, hx⟩ := hrel
    clear hb ha c0 c1 c2 c3 f0 f1 f2 f3 hlt
    by_cases hlt : j < k
    · have hf := hr.free (4 + j)
      have hc := shoot_cell hr j (by omega)
      have hs := post_step hr (by omega)
      go_wp2
      go_roundw
      case rel => exact ⟨j + 1, by omega, by go_num, hs, hx.set _ _⟩
      case measure => simp [intOf]; omega
    · obtain rfl : j = k := by omega
      go_wp2
      go_ret
      exact ⟨rfl, hr, hx⟩
end Go.Proofs.Ytegkimecdonfgaa
namespace Go.Proofs.Ytegkimecdonfgaa
open Go.RowKit
/-- What a step came to. -/
structure Ev where
  code : Int
  fin : Bool
  an : An
  back : Bool
  deriving DecidableEq
def Ev.no (c : Int) : Ev := ⟨c, false, An.zero, false⟩
/-- A core: what it keeps, and its walk. -/
structure Cr where
  l : List Ln
  k : Ck
def Cr.zero : Cr := ⟨[], Ck.zero⟩
structure Sc where
  s : Ms
  cs : List Cr
  told : Mp
  wait : Nat → Bool
  busy : Bool
  gone : List Int
namespace Sc
def new (cores n : Nat) : Sc := ⟨(Ms.new n).takeS, List.replicate cores Cr.zero, Mp.zero, fun _ => false, false, []⟩
def core (σ : Sc) (k : Nat) : Cr := σ.cs.getD k Cr.zero
def post (σ : Sc) (s : Ms) (m : Mp) (g : List Int) : Sc := { σ with s := s, told := m, wait := postW σ.cs.length, busy := true, gone := g }
def change (σ : Sc) (x : Stp) : Sc × Ev :=
  if σ.busy = true then (σ, .no 8)
  else if x.kind = 1 then ({ σ with s := insS σ.s 0 x.m }, ⟨insC σ.s 0 x.m, false, An.zero, decide (insC σ.s 0 x.m = 0)⟩)
  else if x.kind = 2 then
    if findC σ.s 0 x.m.page = 0 then (σ.post (remS σ.s 0 x.m.page) (findM σ.s 0 x.m.page) (remG σ.s 0 x.m.page), .no 0) else (σ, .no (findC σ.s 0 x.m.page))
  else if prC σ.s 0 x.m.page x.m.rights = 0 then (σ.post (prS σ.s 0 x.m.page x.m.rights) (prM σ.s 0 x.m.page x.m.rights) [], .no 0)
  else (σ, .no (prC σ.s 0 x.m.page x.m.rights))
def put (σ : Sc) (k : Nat) (c : Cr) : Sc := { σ with cs := σ.cs.set k c }
/-- A core looks after what it was told. -/
def heed (σ : Sc) (k : Nat) : Sc := { σ with cs := σ.cs.set k ⟨Tl.drop (σ.core k).l σ.told, (σ.core k).k.again 0⟩, wait := ackW σ.wait k }
def over (σ : Sc) : Sc := { σ with s := giveL σ.s σ.gone, busy := false, gone := [] }
def ack (σ : Sc) (k : Nat) : Sc × Ev :=
  if σ.wait k = false then (σ, .no 9)
  else if overB (σ.heed k).wait = true then ((σ.heed k).over, ⟨0, false, An.zero, true⟩)
  else (σ.heed k, .no 0)
def access (σ : Sc) (k : Nat) (a : Ac) : Sc × Ev :=
  (σ.put k ⟨(σ.core k).l, (coreB (σ.core k).l 0 (σ.core k).k a).c⟩, ⟨(coreB (σ.core k).l 0 (σ.core k).k a).code, (coreB (σ.core k).l 0 (σ.core k).k a).fin, (coreB (σ.core k).l 0 (σ.core k).k a).an, false⟩)
def walk (σ : Sc) (k : Nat) : Sc × Ev :=
  ({ σ.put k ⟨keepL (σ.core k).l (stepC σ.s 0 (σ.core k).k).r, (stepC σ.s 0 (σ.core k).k).c⟩ with s := (stepC σ.s 0 (σ.core k).k).s },
    ⟨(stepC σ.s 0 (σ.core k).k).code, (stepC σ.s 0 (σ.core k).k).r.fin, (stepC σ.s 0 (σ.core k).k).r.an, false⟩)
def evict (σ : Sc) (k : Nat) : Sc × Ev :=
  if (σ.core k).l = [] then (σ, .no 9) else (σ.put k ⟨Tl.evict (σ.core k).l, (σ.core k).k⟩, .no 0)
/-- A step. -/
def act (σ : Sc) (x : Stp) : Sc × Ev :=
  if 1 ≤ x.kind ∧ x.kind ≤ 3 then σ.change x
  else if x.kind < 1 ∨ 7 < x.kind then (σ, .no 2)
  else if x.core < 0 ∨ (σ.cs.length : Int) ≤ x.core then (σ, .no 1)
  else if x.kind = 4 then σ.access x.core.toNat x.a
  else if x.kind = 5 then σ.walk x.core.toNat
  else if x.kind = 6 then σ.ack x.core.toNat
  else σ.evict x.core.toNat
/-- What is on its way in a core. -/
def on (σ : Sc) (k : Int) : Bool := decide (0 ≤ k) && (decide (k < σ.cs.length) && (σ.core k.toNat).k.on)
def acc (σ : Sc) (k : Int) : Ac := if σ.on k = true then (σ.core k.toNat).k.a else Ac.zero
def kept (σ : Sc) (k : Int) : List Ln := if 0 ≤ k ∧ k < σ.cs.length then (σ.core k.toNat).l else []
/-- A space that is whole, as far as each of its pieces is. -/
structure Ok (σ : Sc) : Prop where
  s : σ.s.Ok
  c : ∀ c ∈ σ.cs, Tl.Ok c.l ∧ c.k.Ok
  few : σ.cs.length ≤ 4
  one : 1 ≤ σ.cs.length
  w : ∀ i, σ.cs.length ≤ i → σ.wait i = false
  told : σ.told.ok
theorem core_ok {σ : Sc} (h : σ.Ok) (k : Nat) : Tl.Ok (σ.core k).l ∧ (σ.core k).k.Ok := by
  unfold core
  rw [List.getD_eq_getElem?_getD]
  cases hk : σ.cs[k]? with
  | none => exact ⟨Tl.Ok.nil, Ck.Ok.zero⟩
  | some c => exact h.c c (List.mem_of_getElem? hk)
theorem put_len (σ : Sc) (k : Nat) (c : Cr) : (σ.put k c).cs.length = σ.cs.length := List.length_set ..
theorem mem_set {cs : List Cr} {k : Nat} {c x : Cr} (h : x ∈ cs.set k c) : x = c ∨ x ∈ cs := (List.mem_or_eq_of_mem_set h).symm
theorem Ok.put {σ : Sc} (h : σ.Ok) (k : Nat) {c : Cr} (h1 : Tl.Ok c.l) (h2 : c.k.Ok) : (σ.put k c).Ok :=
  ⟨h.s, fun x hx => by rcases mem_set hx with rfl | hx; exact ⟨h1, h2⟩; exact h.c x hx, by rw [put_len]; exact h.few, by rw [put_len]; exact h.one, fun i hi => h.w i (by rw [put_len] at hi; exact hi), h.told⟩
theorem mp_ok_zero : Mp.zero.ok := by
  refine ⟨?_, ?_, ?_, ?_⟩ <;> (show i64 0; unfold i64; omega)
end Sc
end Go.Proofs.Ytegkimecdonfgaa
namespace Go.Proofs.Ytegkimecdonfgaa
open Go.RowKit Go.Shelf
set_option maxRecDepth 100000
attribute [local go_sem] Oper.semAt_some
/-- What has come when k rounds are over, of a row from its end. -/
def backL (m : List Int) (k : Nat) : List (Int × Int) := (List.range k).map fun (j : Nat) => (((m.length : Int) - 1 - (j : Int)), m[m.length - 1 - j]?.getD 0)
theorem backL_succ (m : List Int) (k : Nat) : backL m (k + 1) = backL m k ++ [(((m.length : Int) - 1 - k), m[m.length - 1 - k]?.getD 0)] := by simp [backL, List.range_succ]
theorem backL_len (m : List Int) (k : Nat) : (backL m k).length = k := by simp [backL]
theorem backL_all (m : List Int) : (backL m m.length).map Prod.snd = m.reverse := by
  unfold backL
  rw [List.map_map]
  apply List.ext_getElem
  · simp
  · intro i h1 h2
    simp at h1 h2 ⊢
    rw [List.getElem?_eq_getElem (by omega)]
    rfl
/-- What the body must keep. -/
structure KpT (T : Nat → Prop) (A B : World) : Prop where
  same : ∀ b, T b → B.heap[b]? = A.heap[b]?
theorem KpT.refl (T : Nat → Prop) (A : World) : KpT T A A := ⟨fun _ _ => rfl⟩
theorem KpT.trans {T : Nat → Prop} {A B C : World} (h : KpT T A B) (k : KpT T B C) : KpT T A C := ⟨fun b hb => (k.same b hb).trans (h.same b hb)⟩
theorem KpT.cell {T : Nat → Prop} {A B : World} (h : KpT T A B) {b o : Nat} (hb : T b) : B.cell? ⟨b, o, none⟩ = A.cell? ⟨b, o, none⟩ := by
  have := h.same b hb
  unfold World.cell?
  simp only [this]
set_option maxHeartbeats 2000000 in
theorem back1 (n : Nat) (hn : 1 ≤ n) (l Bs c : Nat) (A : Option Addr) (m : List Int) (hm : m.length ≤ 9223372036854775807) (T : Nat → Prop) (hT : T Bs) (J Jx : List (Int × Int) → World → Prop)
    (hY : ∀ pre x W, J pre W → pre.length < m.length → YieldAt Fence.wide (n - 1) Try.prog l #[(Value.int .i64) x.1, (Value.int .i64) x.2] W fun e W' =>
      (e = .returned (.bool true) ∧ J (pre ++ [x]) W' ∧ KpT T W W') ∨ (e = .returned (.bool false) ∧ Jx (pre ++ [x]) W'))
    (W : World) (hBs : W.cell? ⟨Bs, 0, none⟩ = some (.slice A m.length c)) (hc : ∀ j, (hj : j < m.length) → ∃ b, A = some ⟨b, 0, none⟩ ∧ T b ∧ W.cell? ⟨b, j, none⟩ = some ((Value.int .i64) m[j])) (h0 : J [] W) :
    CallsIn Fence.wide n Try.prog 124 #[.func (.yield l) #[] #[], .pointer (some ⟨Bs, 0, none⟩)] W fun e W' => (∃ v, e = .returned v) ∧
      ((∃ ys, ys = backL m m.length ∧ J ys W') ∨ (∃ pre, (∃ k, k ≤ m.length ∧ pre = backL m k) ∧ Jx pre W')) := by
  refine callsIn_of_wp Try.func124 rfl trivial ?_ rfl
  simp only [Try.ntmps124, List.size_toArray, List.length_cons, List.length_nil, Nat.reduceAdd, Nat.reduceSub, Array.replicate_succ, Array.replicate_zero, List.push_toArray, List.append_toArray, List.nil_append, List.cons_append]
  gi_wp2
  gi_loopw [3] (fun i wr => ∃ q : Nat, q ≤ m.length ∧ i = (Value.int .i64) ((q : Int) - 1) ∧ J (backL m (m.length - q)) wr ∧ KpT T W wr)
    (fun i _ => (intOf i + 1).toNat)
  case atStart => exact ⟨m.length, Nat.le_refl _, by go_num, by rw [Nat.sub_self]; exact h0, KpT.refl _ _⟩
  case round =>
    obtain ⟨q, hq, hi, hJs, hnx⟩ := hrel
    have hBs' := (hnx.cell hT).trans hBs
    cases q with
    | zero =>
      obtain rfl := hi
      gi_wp2
      go_end0
      exact ⟨⟨_, rfl⟩, .inl ⟨_, rfl, hJs⟩⟩
    | succ j =>
      have hij : ((j + 1 : Nat) : Int) - 1 = (j : Int) := by omega
      rw [hij] at hi
      subst hi
      obtain ⟨b, hA, hTb, hcb⟩ := hc j (by omega)
      have hcx := (hnx.cell hTb).trans hcb
      have hji : (j : Int) < m.length := by omega
      have hk1 : m.length - j = m.length - (j + 1) + 1 := by omega
      have hsx : backL m (m.length - j) = backL m (m.length - (j + 1)) ++ [((j : Int), m[j])] := by
        rw [hk1, backL_succ]
        have e1 : m.length - 1 - (m.length - (j + 1)) = j := by omega
        rw [e1, List.getElem?_eq_getElem (by omega)]
        congr 2
        simp
        omega
      obtain ⟨fn, tmps, assign, body, hy, hR⟩ := hY _ ((j : Int), m[j]) _ hJs (by rw [backL_len]; omega)
      dsimp only at hy
      subst hA
      gi_wp2
      refine hR.mono ?_
      rintro e W3 (⟨rfl, hJ3, hk3⟩ | ⟨rfl, hJx3⟩)
      · gi_wp2
        go_roundw
        case rel => exact ⟨j, by omega, by go_num, by rw [hsx]; exact hJ3, hnx.trans hk3⟩
        case measure => first | (simp [intOf]; done) | (simp [intOf]; omega)
      · gi_wp2
        refine bodyPost_ret (results_none rfl _ _ _) rfl ?_
        exact ⟨⟨_, rfl⟩, .inr ⟨_, ⟨m.length - j, by omega, hsx.symm⟩, hJx3⟩⟩
theorem back_stops (n : Nat) (hn : 1 ≤ n) (Bs c : Nat) (A : Option Addr) (m : List Int) (hm : m.length ≤ 9223372036854775807) (T : Nat → Prop) (hT : T Bs) (w : World) (hB : Bs < w.heap.size) (hBs : w.cell? ⟨Bs, 0, none⟩ = some (.slice A m.length c)) (hc : ∀ j, (hj : j < m.length) → ∃ b, A = some ⟨b, 0, none⟩ ∧ b < w.heap.size ∧ T b ∧ w.cell? ⟨b, j, none⟩ = some ((Value.int .i64) m[j])) :
    SeqStopsK Fence.wide n Try.prog 124 #[.pointer (some ⟨Bs, 0, none⟩)] (fun x : Int × Int => #[(Value.int .i64) x.1, (Value.int .i64) x.2]) (KpT T) (fun xs => xs = backL m m.length) (fun pre => ∃ k, k ≤ m.length ∧ pre = backL m k) m.length w := by
  intro l J Jx W hW hJ hJx hY h0
  refine back1 n hn l Bs c A m hm T hT J Jx hY W ((hW.cell (p := ⟨Bs, 0, none⟩) hB).trans hBs) (fun j hj => ?_) h0
  obtain ⟨b, h1, h2, h3, h4⟩ := hc j hj
  exact ⟨b, h1, h3, (hW.cell (p := ⟨b, j, none⟩) h2).trans h4⟩
theorem backward_any (A : Option Addr) (n c : Nat) (w : World) : Calls Try.prog 97 #[.slice A n c] w fun e w' => e = .returned (.func (.func 124) #[] #[.pointer (some ⟨w.heap.size, 0, none⟩)]) ∧ w' = w.alloc (.cells #[.slice A n c] 36) := by
  have hmf : ∀ (fn : Fn) (first cap : Array Value) (w : World), (Instr.makeFunc fn first cap).run Try.prog w = .ok (.func fn first cap) w := fun _ _ _ _ => rfl
  go_enter Try.func97, Try.ntmps97
  go_wp2_with fail
  go_ret
  exact ⟨rfl, rfl⟩
end Go.Proofs.Ytegkimecdonfgaa
namespace Go.Proofs.Ytegkimecdonfgaa
open Go.RowKit Hpm
def exact' (x : Hp) : HProp := fun h => h = x
def AllCells (P : HProp) : Prop := ∀ h, P h → ∀ b o, h b = some o → o.isCells = true
theorem AllCells.star {P Q : HProp} (hp : AllCells P) (hq : AllCells Q) : AllCells (P * Q) := by
  rintro h ⟨h1, h2, d, rfl, p, q⟩ b o e
  simp only [union] at e
  cases e1 : h1 b with
  | none => rw [e1] at e; exact hq h2 q b o (by simpa using e)
  | some x => rw [e1] at e; simp at e; subst e; exact hp h1 p b x e1
theorem AllCells.ex {α : Type} {P : α → HProp} (h : ∀ x, AllCells (P x)) : AllCells (ex P) := fun k ⟨x, p⟩ => h x k p
theorem AllCells.blk (b : Nat) (cs : Array Value) (t : TypeId) : AllCells (blk b cs t) := by
  rintro h rfl k o e
  simp only [single] at e
  split at e
  · injection e with e; subst e; rfl
  · cases e
theorem AllCells.row (e size : Nat) (v : Value) (n : Nat) (xs : List Value) : AllCells (row e size v n xs) := by
  rintro h ⟨_, ⟨_, _, rfl⟩ | ⟨g, cap, cur, _, _, _, _, _, hb⟩⟩ b o ho
  · cases ho
  · exact AllCells.blk _ _ _ h hb b o ho
theorem AllCells.lift (p : Prop) : AllCells (lift p) := by
  rintro h ⟨_, rfl⟩ b o e
  cases e
theorem framesCells (f : Nat) (s : Ms) : AllCells (framesAt f s) := by
  unfold framesAt
  refine AllCells.ex fun g => AllCells.ex fun vf => ?_
  unfold framesIn
  exact (AllCells.blk _ _ _).star ((AllCells.blk _ _ _).star ((AllCells.row _ _ _ _ _).star (AllCells.lift _)))
/-- What is not P's, exactly. -/
theorem has_exact {w : World} {P R : HProp} (h : Has w (P * R)) : ∃ x, R x ∧ Has w (P * exact' x) ∧ sub x (fun b => w.heap[b]?) := by
  obtain ⟨_, s, h1, h2, d, rfl, p, r⟩ := h
  exact ⟨h2, r, ⟨_, s, h1, h2, d, rfl, p, rfl⟩, sub_union_right d s⟩
theorem exact_sub {w : World} {P : HProp} {x : Hp} (h : Has w (P * exact' x)) : sub x (fun b => w.heap[b]?) := by
  obtain ⟨_, s, h1, h2, d, rfl, p, r⟩ := h
  have r : h2 = x := r
  subst r
  exact sub_union_right d s
theorem exact_back {w : World} {P R : HProp} {x : Hp} (h : Has w (P * exact' x)) (r : R x) : Has w (P * R) := by
  obtain ⟨_, s, h1, h2, d, rfl, p, e⟩ := h
  have e : h2 = x := e
  subst e
  exact ⟨_, s, h1, h2, d, rfl, p, r⟩
/-- All that is not P's. -/
theorem has_rest {w : World} {P : HProp} {x : Hp} (h : Has w (P * exact' x)) (hc : AllCells P) : ∃ y, sub x y ∧ Has w (P * exact' y) ∧ ∀ b o, w.heap[b]? = some o → o.isCells = false → y b = some o := by
  obtain ⟨_, s, h1, h2, d, rfl, p, e⟩ := h
  have e : h2 = x := e
  subst e
  refine ⟨fun b => if (h1 b).isSome then none else w.heap[b]?, ?_, ⟨_, ?_, h1, _, ?_, rfl, p, rfl⟩, ?_⟩
  · intro b o e
    have hb : h1 b = none := by
      rcases d b with h | h
      · exact h
      · rw [h] at e; cases e
    show (if (h1 b).isSome then none else w.heap[b]?) = some o
    rw [hb]
    exact sub_union_right d s b o e
  · refine sub_union (sub_union_left s) fun b o e => ?_
    replace e : (if (h1 b).isSome then none else w.heap[b]?) = some o := e
    split at e
    · cases e
    · exact e
  · intro b
    cases hb : h1 b with
    | none => exact .inl rfl
    | some o => right; simp [hb]
  · intro b o e ho
    show (if (h1 b).isSome then none else w.heap[b]?) = some o
    cases hb : h1 b with
    | none => exact e
    | some o' =>
      have h3 := sub_union_left s b o' hb
      have h4 : w.heap[b]? = some o' := h3
      rw [e] at h4
      injection h4 with h4
      subst h4
      rw [hc h1 p b o hb] at ho
      cases ho
theorem exact_mono {w : World} {P : HProp} {x y : Hp} (h : Has w (P * exact' y)) (hs : sub x y) : Has w (P * exact' x) := by
  obtain ⟨_, s, h1, h2, d, rfl, p, e⟩ := h
  have e : h2 = y := e
  subst e
  refine ⟨_, sub_union (sub_union_left s) (fun b o hb => sub_union_right d s b o (hs b o hb)), h1, x, fun b => ?_, rfl, p, rfl⟩
  rcases d b with h | h
  · exact .inl h
  · right
    cases hx : x b with
    | none => rfl
    | some o => rw [hs b o hx] at h; cases h
/-- It stands through the turn of a block that is no cells, and is no part of x. -/
theorem exact_grown {w w' : World} {P : HProp} {x : Hp} {row : Option Nat} (h : Has w (P * exact' x)) (hc : AllCells P) (hg : w.grownBy w' row) (hr : ∀ r, row = some r → x r = none ∧ ∃ o : Obj, w.heap[r]? = some o ∧ o.isCells = false) : Has w' (P * exact' x) := by
  obtain ⟨_, s, h1, h2, d, rfl, p, e⟩ := h
  have e : h2 = x := e
  subst e
  refine ⟨_, fun b o hb => ?_, h1, h2, d, rfl, p, rfl⟩
  have h3 : w.heap[b]? = some o := s b o hb
  have hlt : b < w.heap.size := (Array.getElem?_eq_some_iff.1 h3).1
  show w'.heap[b]? = some o
  rw [hg.block b hlt ?_]
  · exact h3
  · intro e
    obtain ⟨hx, o', ho', hcl⟩ := hr b e.symm
    simp only [union] at hb
    cases hb1 : h1 b with
    | none => rw [hb1, hx] at hb; cases hb
    | some o1 =>
      have h4 := sub_union_left s b o1 hb1
      have h4 : w.heap[b]? = some o1 := h4
      rw [ho'] at h4
      injection h4 with h4
      subst h4
      rw [hc h1 p b o' hb1] at hcl
      cases hcl
/-- A call that has a contract by pieces, at the exact rest: what it leaves. -/
theorem call_keeps {P : Program} {fn : Nat} {args : Array Value} {v : Value} {A B : HProp} {x : Hp} {w : World} (hc : AllCells A) (h : Has w (A * exact' x))
    (hcall : ∀ R, Has w (A * R) → Calls P fn args w (Res v (B * R) w)) (Bd : Nat) :
    Calls P fn args w fun e w' => e = .returned v ∧ Has w' (B * exact' x) ∧ Ext w w' ∧ KeepsFrom Bd w w' ∧ KpT (fun b => (x b).isSome = true) w w' := by
  obtain ⟨y, hs, hy, hall⟩ := has_rest h hc
  refine (hcall _ hy).mono fun e w' ⟨he, hB, hx⟩ => ⟨he, exact_mono hB hs, hx, ⟨hx.size, fun k o _ hk ho => exact_sub hB k o (hall k o hk ho)⟩, ⟨fun b hb => ?_⟩⟩
  obtain ⟨o, ho⟩ := Option.isSome_iff_exists.1 hb
  have h1 : w'.heap[b]? = some o := exact_sub hB b o (hs b o ho)
  have h2 : w.heap[b]? = some o := exact_sub h b o ho
  rw [h1, h2]
end Go.Proofs.Ytegkimecdonfgaa
