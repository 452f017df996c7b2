/- Contract of package space: ack. -/
import Derived.Test.YtmfheghbgihdmaaSpcN
import Derived.Test.YtmfheghbgihdmaaSpcG
import Derived.Test.YtmfheghbgihdmaaCoreP3
import Derived.Deep.RegionHeld3
import Derived.BigQuiet
import Derived.Test.YtmfheghbgihdmaaTblM5
namespace Go.Proofs.Ytmfheghbgihdmaa
open Go.RowKit
set_option maxRecDepth 100000
set_option maxHeartbeats 4000000 in
theorem ackS (b : Nat) (σ : Sc) (k : Nat) (hok : σ.Ok) (hk : k < σ.cs.length) (R : HProp) (w : World) (h : Has w (spaceAt b σ * R)) :
    Calls Try.prog 26 #[.pointer (some ⟨b, 0, none⟩), (Value.int .i64) k] w (Res (σ.ack k).2.val (spaceAt b (σ.ack k).1 * R) w) := by
  have hc := Sc.core_ok hok k
  have hat := Safe.at_core hk
  obtain ⟨s, cs, td, wt, bz, gn⟩ := σ
  obtain ⟨y, hy, h⟩ := spaceAt_open h
  unfold spaceIn at h
  have hk4 : k < 4 := by have := hok.few; omega
  have hwy : waitsB wt k = wt k := waits_yes hk4
  have HTD := Lib.hid hok.told.1
  have h0 := h.new #[(Value.int .i64) 0, Value.bool false, (Value.int .i64) 0, (Value.int .i64) 0, (Value.int .i64) 0, Value.bool false] 39
  have x0 := (Ext.refl w).alloc (.cells #[(Value.int .i64) 0, Value.bool false, (Value.int .i64) 0, (Value.int .i64) 0, (Value.int .i64) 0, Value.bool false] 39)
  dsimp only at *
  cases hw : wt k with
  | false =>
    have e : Sc.ack ⟨s, cs, td, wt, bz, gn⟩ k = (⟨s, cs, td, wt, bz, gn⟩, .no 9) := by unfold Sc.ack; rw [if_pos hw]
    rw [e]
    rw [hw] at hwy
    have HS := Lib.hid (fun (w' : World) (R' : HProp) (h : Has w' (spaceIn b ⟨s, cs, td, wt, bz, gn⟩ y R')) => spaceAt_shut (σ := ⟨s, cs, td, wt, bz, gn⟩) hy h)
    unfold spaceIn at HS
    have HN := Lib.hid (fun R w h => ack_no y.sh td wt k R w h hwy)
    clear e hw hwy hok hat hc h
    have h1 : Has _ (shootAt y.sh td wt * (blk b #[.pointer (some ⟨y.f, 0, none⟩), (Value.int .i64) 0, .slice y.A y.ps.length y.c, .pointer (some ⟨y.sh, 0, none⟩), Value.bool bz, (.slice y.G gn.length y.d)] 63 * (blk w.heap.size #[(Value.int .i64) 0, Value.bool false, (Value.int .i64) 0, (Value.int .i64) 0, (Value.int .i64) 0, Value.bool false] 39 * (prow (.slice y.A y.ps.length y.c) y.ps * (irow (.slice y.G gn.length y.d) gn * (coresAt y.ps cs * (frA y.f s * R))))))) := h0.eq (by ac_rfl)
    clear h0
    obtain ⟨c0, c1, c2, c3, c4, c5⟩ := h1.right.cells6
    have cl := h1.right.lt
    go_enter Try.func26, Try.ntmps26
    go_wp2_with fail
    refine (HN.out _ _ h1).mono ?_; rintro e w2 ⟨rfl, h2, x2⟩
    have h3 : Has _ (blk w.heap.size #[(Value.int .i64) 0, Value.bool false, (Value.int .i64) 0, (Value.int .i64) 0, (Value.int .i64) 0, Value.bool false] 39 * (blk b #[.pointer (some ⟨y.f, 0, none⟩), (Value.int .i64) 0, .slice y.A y.ps.length y.c, .pointer (some ⟨y.sh, 0, none⟩), Value.bool bz, (.slice y.G gn.length y.d)] 63 * (prow (.slice y.A y.ps.length y.c) y.ps * (irow (.slice y.G gn.length y.d) gn * (shootAt y.sh td wt * (coresAt y.ps cs * (frA y.f s * (blk w2.heap.size #[(Value.int .i64) 0, (Value.int .i64) 0, (Value.int .i64) 0, (Value.int .i64) 0] 31 * R)))))))) := (h2.new #[(Value.int .i64) 0, (Value.int .i64) 0, (Value.int .i64) 0, (Value.int .i64) 0] 31).eq (by ac_rfl)
    have x3 := (x0.trans x2).alloc (.cells #[(Value.int .i64) 0, (Value.int .i64) 0, (Value.int .i64) 0, (Value.int .i64) 0] 31)
    clear h1 h2 x0 x2 c0 c1 c2 c3 c4 c5 cl
    go_upto_region 3 with fail
    generalize w2.alloc (.cells #[(Value.int .i64) 0, (Value.int .i64) 0, (Value.int .i64) 0, (Value.int .i64) 0] 31) = w3 at *
    generalize w2.heap.size = M at *
    go_wp2_with fail
    refine (refusedS 9 _).mono ?_; rintro e w7 ⟨rfl, b7⟩
    have h7 := h3.below b7
    have x7 := x3.below b7
    clear h3 x3 b7
    obtain ⟨e0, e1, e2, e3, e4, e5⟩ := h7.cells6
    obtain ⟨f0, f1, f2, f3, f4, f5⟩ := h7.frees6
    have el := h7.lt
    go_wp2_with fail
    refine ret_via (fun wz => Has wz (blk w.heap.size #[(Value.int .i64) 9, Value.bool false, (Value.int .i64) 0, (Value.int .i64) 0, (Value.int .i64) 0, Value.bool false] 39 * (blk b #[.pointer (some ⟨y.f, 0, none⟩), (Value.int .i64) 0, .slice y.A y.ps.length y.c, .pointer (some ⟨y.sh, 0, none⟩), Value.bool bz, (.slice y.G gn.length y.d)] 63 * (prow (.slice y.A y.ps.length y.c) y.ps * (irow (.slice y.G gn.length y.d) gn * (shootAt y.sh td wt * (coresAt y.ps cs * (frA y.f s * (blk M #[(Value.int .i64) 0, (Value.int .i64) 0, (Value.int .i64) 0, (Value.int .i64) 0] 31 * R)))))))) ∧ Ext w wz) ⟨h7.set6 _ _ _ _ _ _, by (repeat (first | with_reducible assumption | with_reducible exact Ext.refl _ | with_reducible refine Ext.set ?_ _ _ | with_reducible refine Ext.alloc ?_ _ | with_reducible refine Ext.drew ?_ | with_reducible refine Ext.drewN ?_ _ | assumption | exact Ext.refl _ | refine Ext.alloc ?_ _ | refine Ext.set ?_ _ _ | refine Ext.drew ?_ | refine Ext.drewN ?_ _ | refine Ext.below ?_ (by assumption) | refine Ext.trans ?_ (by assumption)))⟩ ?_
    rintro wz ⟨hz, xz⟩
    exact bodyPost_ret (results_c Try.results26 rfl (load_event hz)) rfl ⟨rfl, (HS.out _ (blk M #[(Value.int .i64) 0, (Value.int .i64) 0, (Value.int .i64) 0, (Value.int .i64) 0] 31 * R) hz.right).p2.right, xz⟩
  | true =>
    have hkp : k < y.ps.length := by omega
    obtain ⟨Q, eQ, eS⟩ := cores_at (List.getElem?_eq_getElem hkp) hat
    have e : Sc.ack ⟨s, cs, td, wt, bz, gn⟩ k = if overB (ackW wt k) = true then (⟨giveL s gn, cs.set k ⟨Tl.drop (Sc.core ⟨s, cs, td, wt, bz, gn⟩ k).l td, (Sc.core ⟨s, cs, td, wt, bz, gn⟩ k).k.again 0⟩, td, ackW wt k, false, []⟩, ⟨0, false, An.zero, true⟩)
        else (⟨s, cs.set k ⟨Tl.drop (Sc.core ⟨s, cs, td, wt, bz, gn⟩ k).l td, (Sc.core ⟨s, cs, td, wt, bz, gn⟩ k).k.again 0⟩, td, ackW wt k, bz, gn⟩, .no 0) := by
      unfold Sc.ack
      rw [if_neg (show ¬ wt k = false by rw [hw]; simp)]
      rfl
    rw [e]
    clear e
    generalize Sc.core ⟨s, cs, td, wt, bz, gn⟩ k = cc at *
    rw [hw] at hwy
    have HY := Lib.hid (fun R w h => ack_yes y.sh td wt k R w h hwy)
    have HTO := Lib.hid (fun R w h' => toldC (y.ps[k]'hkp) cc.l 0 cc.k td hc.1 HTD.out R w h')
    obtain ⟨bA, hA, lA, cA⟩ := prow_at h.right (List.getElem?_eq_getElem hkp)
    have hpk := List.getElem?_eq_getElem hkp
    rw [eQ] at h0
    have hlen : y.ps.length = (cs.set k ⟨Tl.drop cc.l td, cc.k.again 0⟩).length := by rw [List.length_set]; exact hy
    have eS1 := eS ⟨Tl.drop cc.l td, cc.k.again 0⟩
    generalize cs.set k ⟨Tl.drop cc.l td, cc.k.again 0⟩ = cs' at *
    have hkl : (k : Int) < y.ps.length := by omega
    generalize y.ps[k] = p at *
    obtain ⟨yf, ysh, yA, yc, yps, yG, yd⟩ := y
    dsimp only at *
    subst hA
    have h1 : Has _ (shootAt ysh td wt * (blk b #[.pointer (some ⟨yf, 0, none⟩), (Value.int .i64) 0, .slice (some ⟨bA, 0, none⟩) yps.length yc, .pointer (some ⟨ysh, 0, none⟩), Value.bool bz, (.slice yG gn.length yd)] 63 * (blk w.heap.size #[(Value.int .i64) 0, Value.bool false, (Value.int .i64) 0, (Value.int .i64) 0, (Value.int .i64) 0, Value.bool false] 39 * (prow (.slice (some ⟨bA, 0, none⟩) yps.length yc) yps * (irow (.slice yG gn.length yd) gn * (pcAt p cc.l 0 cc.k * (Q * (frA yf s * R)))))))) := h0.eq (by ac_rfl)
    have HSH := Lib.hid (fun (s' : Ms) (bz' : Bool) (gn' : List Int) (yG' : Option Addr) (yd' : Nat) (w' : World) (R' : HProp) (h : Has w' (spaceIn b ⟨s', cs', td, ackW wt k, bz', gn'⟩ ⟨yf, ysh, some ⟨bA, 0, none⟩, yc, yps, yG', yd'⟩ R')) => spaceAt_shut (σ := ⟨s', cs', td, ackW wt k, bz', gn'⟩) hlen h)
    unfold spaceIn at HSH
    dsimp only at HSH
    rw [eS1] at HSH
    clear h h0 eQ eS eS1 hok hat hc hw hwy hlen hy hk hkp
    have HO := Lib.hid (fun R w h => over_any ysh td (ackW wt k) R w h)
    cases hov : overB (ackW wt k) with
    | false =>
      rw [if_neg (by simp)]
      rw [hov] at HO
      clear hov
      obtain ⟨c0, c1, c2, c3, c4, c5⟩ := h1.right.cells6
      have cl := h1.right.lt
      go_enter Try.func26, Try.ntmps26
      go_wp2_with fail
      refine (HY.out _ _ h1).mono ?_; rintro e w2 ⟨rfl, h2, x2⟩
      rw [show ((k : Int)).toNat = k from rfl] at h2
      have h3 : Has _ (pcAt p cc.l 0 cc.k * (blk b #[.pointer (some ⟨yf, 0, none⟩), (Value.int .i64) 0, .slice (some ⟨bA, 0, none⟩) yps.length yc, .pointer (some ⟨ysh, 0, none⟩), Value.bool bz, (.slice yG gn.length yd)] 63 * (prow (.slice (some ⟨bA, 0, none⟩) yps.length yc) yps * (blk w2.heap.size #[(Value.int .i64) td.page, (Value.int .i64) td.size, (Value.int .i64) td.frame, (Value.int .i64) td.rights] 31 * (blk w.heap.size #[(Value.int .i64) 0, Value.bool false, (Value.int .i64) 0, (Value.int .i64) 0, (Value.int .i64) 0, Value.bool false] 39 * (irow (.slice yG gn.length yd) gn * (shootAt ysh td (ackW wt k) * (Q * (frA yf s * R))))))))) := (h2.new #[(Value.int .i64) td.page, (Value.int .i64) td.size, (Value.int .i64) td.frame, (Value.int .i64) td.rights] 31).eq (by ac_rfl)
      have x3 := (x0.trans x2).alloc (.cells #[(Value.int .i64) td.page, (Value.int .i64) td.size, (Value.int .i64) td.frame, (Value.int .i64) td.rights] 31)
      clear h1 h2 x0 x2 c0 c1 c2 c3 c4 c5 cl lA cA HY
      unfold Mp.val
      go_upto_region 4 with fail
      generalize w2.alloc (.cells #[(Value.int .i64) td.page, (Value.int .i64) td.size, (Value.int .i64) td.frame, (Value.int .i64) td.rights] 31) = w3 at *
      generalize w2.heap.size = M at *
      have HK := Lib.hid (fun (w' : World) (P Q : HProp) (h : Has w' (P * (blk b #[.pointer (some ⟨yf, 0, none⟩), (Value.int .i64) 0, .slice (some ⟨bA, 0, none⟩) yps.length yc, .pointer (some ⟨ysh, 0, none⟩), Value.bool bz, (.slice yG gn.length yd)] 63 * (prow (.slice (some ⟨bA, 0, none⟩) yps.length yc) yps * (blk M #[(Value.int .i64) td.page, (Value.int .i64) td.size, (Value.int .i64) td.frame, (Value.int .i64) td.rights] 31 * Q))))) => (by
        obtain ⟨b2, e2, l2, q2⟩ := prow_at h.right.right hpk
        injection e2 with e2; injection e2 with e2
        subst e2
        exact ⟨h.right.cell 2, q2, h.right.right.right.cell 0, h.right.right.right.cell 1, h.right.right.right.cell 2, h.right.right.right.cell 3⟩ : w'.cell? ⟨b, 2, none⟩ = some (.slice (some ⟨bA, 0, none⟩) yps.length yc) ∧ w'.cell? ⟨bA, k, none⟩ = some (.pointer (some ⟨p, 0, none⟩)) ∧ w'.cell? ⟨M, 0, none⟩ = some ((Value.int .i64) td.page) ∧ w'.cell? ⟨M, 1, none⟩ = some ((Value.int .i64) td.size) ∧ w'.cell? ⟨M, 2, none⟩ = some ((Value.int .i64) td.frame) ∧ w'.cell? ⟨M, 3, none⟩ = some ((Value.int .i64) td.rights)))
      have cl := h3.right.lt
      have ml := h3.right.right.right.lt
      have hbl : bA < w3.heap.size := by
        obtain ⟨b2, e2, l2, q2⟩ := prow_at h3.right.right hpk
        injection e2 with e2; injection e2 with e2
        subst e2
        exact l2
      have hd := h3.drew
      have xd := x3.drew
      go_region_held3 (fun w' => w'.cell? ⟨b, 2, none⟩ = some (.slice (some ⟨bA, 0, none⟩) yps.length yc) ∧ w'.cell? ⟨bA, k, none⟩ = some (.pointer (some ⟨p, 0, none⟩)) ∧ w'.cell? ⟨M, 0, none⟩ = some ((Value.int .i64) td.page) ∧ w'.cell? ⟨M, 1, none⟩ = some ((Value.int .i64) td.size) ∧ w'.cell? ⟨M, 2, none⟩ = some ((Value.int .i64) td.frame) ∧ w'.cell? ⟨M, 3, none⟩ = some ((Value.int .i64) td.rights)) (first | (with_reducible exact HK.out _ _ _ hd) | (with_reducible exact HK.out _ _ _ h5) | go_keep) (first | (go_at_call 48; (with_reducible refine (HTO.out _ _ hd).mono ?_); rintro e w5 ⟨rfl, h5, x5⟩))
      all_goals
        have h6 : Has w5 (shootAt ysh td (ackW wt k) * (blk b #[.pointer (some ⟨yf, 0, none⟩), (Value.int .i64) 0, .slice (some ⟨bA, 0, none⟩) yps.length yc, .pointer (some ⟨ysh, 0, none⟩), Value.bool bz, (.slice yG gn.length yd)] 63 * (blk w.heap.size #[(Value.int .i64) 0, Value.bool false, (Value.int .i64) 0, (Value.int .i64) 0, (Value.int .i64) 0, Value.bool false] 39 * (prow (.slice (some ⟨bA, 0, none⟩) yps.length yc) yps * (irow (.slice yG gn.length yd) gn * (pcAt p (Tl.drop cc.l td) 0 (cc.k.again 0) * (Q * (frA yf s * (blk M #[(Value.int .i64) td.page, (Value.int .i64) td.size, (Value.int .i64) td.frame, (Value.int .i64) td.rights] 31 * R))))))))) := h5.eq (by ac_rfl)
        have x6 := xd.trans x5
        clear hd xd h5 x5 h3 x3 HK HTO cl ml hbl
        generalize Tl.drop cc.l td = l' at *
        generalize cc.k.again 0 = k' at *
        obtain ⟨c0, c1, c2, c3, c4, c5⟩ := h6.right.cells6
        have cl := h6.right.lt
      go_wp2_with fail
      refine (HO.out _ _ h6).mono ?_; rintro e w7 ⟨rfl, hwz⟩
      subst hwz
      have h7 : Has w5 (blk w.heap.size #[(Value.int .i64) 0, Value.bool false, (Value.int .i64) 0, (Value.int .i64) 0, (Value.int .i64) 0, Value.bool false] 39 * (blk b #[.pointer (some ⟨yf, 0, none⟩), (Value.int .i64) 0, .slice (some ⟨bA, 0, none⟩) yps.length yc, .pointer (some ⟨ysh, 0, none⟩), Value.bool bz, (.slice yG gn.length yd)] 63 * (prow (.slice (some ⟨bA, 0, none⟩) yps.length yc) yps * (irow (.slice yG gn.length yd) gn * (shootAt ysh td (ackW wt k) * ((pcAt p l' 0 k' * Q) * (frA yf s * (blk M #[(Value.int .i64) td.page, (Value.int .i64) td.size, (Value.int .i64) td.frame, (Value.int .i64) td.rights] 31 * R)))))))) := h6.eq (by ac_rfl)
      obtain ⟨e0, e1, e2, e3, e4, e5⟩ := h7.cells6
      obtain ⟨f0, f1, f2, f3, f4, f5⟩ := h7.frees6
      have el := h7.lt
      go_wp2_with fail
      refine ret_via (fun wz => Has wz (blk w.heap.size #[(Value.int .i64) 0, Value.bool false, (Value.int .i64) 0, (Value.int .i64) 0, (Value.int .i64) 0, Value.bool false] 39 * (blk b #[.pointer (some ⟨yf, 0, none⟩), (Value.int .i64) 0, .slice (some ⟨bA, 0, none⟩) yps.length yc, .pointer (some ⟨ysh, 0, none⟩), Value.bool bz, (.slice yG gn.length yd)] 63 * (prow (.slice (some ⟨bA, 0, none⟩) yps.length yc) yps * (irow (.slice yG gn.length yd) gn * (shootAt ysh td (ackW wt k) * ((pcAt p l' 0 k' * Q) * (frA yf s * (blk M #[(Value.int .i64) td.page, (Value.int .i64) td.size, (Value.int .i64) td.frame, (Value.int .i64) td.rights] 31 * R)))))))) ∧ Ext w wz) ⟨by first | (with_reducible exact h7) | (with_reducible exact h7.set6 _ _ _ _ _ _), by (repeat (first | with_reducible assumption | with_reducible exact Ext.refl _ | with_reducible refine Ext.set ?_ _ _ | with_reducible refine Ext.alloc ?_ _ | with_reducible refine Ext.drew ?_ | with_reducible refine Ext.drewN ?_ _ | assumption | exact Ext.refl _ | refine Ext.alloc ?_ _ | refine Ext.set ?_ _ _ | refine Ext.drew ?_ | refine Ext.drewN ?_ _ | refine Ext.below ?_ (by assumption) | refine Ext.trans ?_ (by assumption)))⟩ ?_
      rintro wz ⟨hz, xz⟩
      exact bodyPost_ret (results_c Try.results26 rfl (load_event hz)) rfl ⟨rfl, (HSH.out s bz gn yG yd _ (blk M #[(Value.int .i64) td.page, (Value.int .i64) td.size, (Value.int .i64) td.frame, (Value.int .i64) td.rights] 31 * R) hz.right).p2.right, xz⟩
    | true =>
      rw [if_pos rfl]
      rw [hov] at HO
      clear hov
      obtain ⟨c0, c1, c2, c3, c4, c5⟩ := h1.right.cells6
      have cl := h1.right.lt
      go_enter Try.func26, Try.ntmps26
      go_wp2_with fail
      refine (HY.out _ _ h1).mono ?_; rintro e w2 ⟨rfl, h2, x2⟩
      rw [show ((k : Int)).toNat = k from rfl] at h2
      have h3 : Has _ (pcAt p cc.l 0 cc.k * (blk b #[.pointer (some ⟨yf, 0, none⟩), (Value.int .i64) 0, .slice (some ⟨bA, 0, none⟩) yps.length yc, .pointer (some ⟨ysh, 0, none⟩), Value.bool bz, (.slice yG gn.length yd)] 63 * (prow (.slice (some ⟨bA, 0, none⟩) yps.length yc) yps * (blk w2.heap.size #[(Value.int .i64) td.page, (Value.int .i64) td.size, (Value.int .i64) td.frame, (Value.int .i64) td.rights] 31 * (blk w.heap.size #[(Value.int .i64) 0, Value.bool false, (Value.int .i64) 0, (Value.int .i64) 0, (Value.int .i64) 0, Value.bool false] 39 * (irow (.slice yG gn.length yd) gn * (shootAt ysh td (ackW wt k) * (Q * (frA yf s * R))))))))) := (h2.new #[(Value.int .i64) td.page, (Value.int .i64) td.size, (Value.int .i64) td.frame, (Value.int .i64) td.rights] 31).eq (by ac_rfl)
      have x3 := (x0.trans x2).alloc (.cells #[(Value.int .i64) td.page, (Value.int .i64) td.size, (Value.int .i64) td.frame, (Value.int .i64) td.rights] 31)
      clear h1 h2 x0 x2 c0 c1 c2 c3 c4 c5 cl lA cA HY
      unfold Mp.val
      go_upto_region 4 with fail
      generalize w2.alloc (.cells #[(Value.int .i64) td.page, (Value.int .i64) td.size, (Value.int .i64) td.frame, (Value.int .i64) td.rights] 31) = w3 at *
      generalize w2.heap.size = M at *
      have HK := Lib.hid (fun (w' : World) (P Q : HProp) (h : Has w' (P * (blk b #[.pointer (some ⟨yf, 0, none⟩), (Value.int .i64) 0, .slice (some ⟨bA, 0, none⟩) yps.length yc, .pointer (some ⟨ysh, 0, none⟩), Value.bool bz, (.slice yG gn.length yd)] 63 * (prow (.slice (some ⟨bA, 0, none⟩) yps.length yc) yps * (blk M #[(Value.int .i64) td.page, (Value.int .i64) td.size, (Value.int .i64) td.frame, (Value.int .i64) td.rights] 31 * Q))))) => (by
        obtain ⟨b2, e2, l2, q2⟩ := prow_at h.right.right hpk
        injection e2 with e2; injection e2 with e2
        subst e2
        exact ⟨h.right.cell 2, q2, h.right.right.right.cell 0, h.right.right.right.cell 1, h.right.right.right.cell 2, h.right.right.right.cell 3⟩ : w'.cell? ⟨b, 2, none⟩ = some (.slice (some ⟨bA, 0, none⟩) yps.length yc) ∧ w'.cell? ⟨bA, k, none⟩ = some (.pointer (some ⟨p, 0, none⟩)) ∧ w'.cell? ⟨M, 0, none⟩ = some ((Value.int .i64) td.page) ∧ w'.cell? ⟨M, 1, none⟩ = some ((Value.int .i64) td.size) ∧ w'.cell? ⟨M, 2, none⟩ = some ((Value.int .i64) td.frame) ∧ w'.cell? ⟨M, 3, none⟩ = some ((Value.int .i64) td.rights)))
      have cl := h3.right.lt
      have ml := h3.right.right.right.lt
      have hbl : bA < w3.heap.size := by
        obtain ⟨b2, e2, l2, q2⟩ := prow_at h3.right.right hpk
        injection e2 with e2; injection e2 with e2
        subst e2
        exact l2
      have hd := h3.drew
      have xd := x3.drew
      go_region_held3 (fun w' => w'.cell? ⟨b, 2, none⟩ = some (.slice (some ⟨bA, 0, none⟩) yps.length yc) ∧ w'.cell? ⟨bA, k, none⟩ = some (.pointer (some ⟨p, 0, none⟩)) ∧ w'.cell? ⟨M, 0, none⟩ = some ((Value.int .i64) td.page) ∧ w'.cell? ⟨M, 1, none⟩ = some ((Value.int .i64) td.size) ∧ w'.cell? ⟨M, 2, none⟩ = some ((Value.int .i64) td.frame) ∧ w'.cell? ⟨M, 3, none⟩ = some ((Value.int .i64) td.rights)) (first | (with_reducible exact HK.out _ _ _ hd) | (with_reducible exact HK.out _ _ _ h5) | go_keep) (first | (go_at_call 48; (with_reducible refine (HTO.out _ _ hd).mono ?_); rintro e w5 ⟨rfl, h5, x5⟩))
      all_goals
        have h6 : Has w5 (shootAt ysh td (ackW wt k) * (blk b #[.pointer (some ⟨yf, 0, none⟩), (Value.int .i64) 0, .slice (some ⟨bA, 0, none⟩) yps.length yc, .pointer (some ⟨ysh, 0, none⟩), Value.bool bz, (.slice yG gn.length yd)] 63 * (blk w.heap.size #[(Value.int .i64) 0, Value.bool false, (Value.int .i64) 0, (Value.int .i64) 0, (Value.int .i64) 0, Value.bool false] 39 * (prow (.slice (some ⟨bA, 0, none⟩) yps.length yc) yps * (irow (.slice yG gn.length yd) gn * (pcAt p (Tl.drop cc.l td) 0 (cc.k.again 0) * (Q * (frA yf s * (blk M #[(Value.int .i64) td.page, (Value.int .i64) td.size, (Value.int .i64) td.frame, (Value.int .i64) td.rights] 31 * R))))))))) := h5.eq (by ac_rfl)
        have x6 := xd.trans x5
        clear hd xd h5 x5 h3 x3 HK HTO cl ml hbl
        generalize Tl.drop cc.l td = l' at *
        generalize cc.k.again 0 = k' at *
        obtain ⟨c0, c1, c2, c3, c4, c5⟩ := h6.right.cells6
        have cl := h6.right.lt
        go_wp2_with fail
        refine (HO.out _ _ h6).mono ?_; rintro e w7 ⟨rfl, hwz⟩
        subst hwz
        have h7 : Has w5 (frA yf (giveL s (gn.take 0)) * (irow (.slice yG gn.length yd) gn * (blk b #[.pointer (some ⟨yf, 0, none⟩), (Value.int .i64) 0, .slice (some ⟨bA, 0, none⟩) yps.length yc, .pointer (some ⟨ysh, 0, none⟩), Value.bool bz, (.slice yG gn.length yd)] 63 * (blk w.heap.size #[(Value.int .i64) 0, Value.bool false, (Value.int .i64) 0, (Value.int .i64) 0, (Value.int .i64) 0, Value.bool false] 39 * (prow (.slice (some ⟨bA, 0, none⟩) yps.length yc) yps * (shootAt ysh td (ackW wt k) * ((pcAt p l' 0 k' * Q) * (blk M #[(Value.int .i64) td.page, (Value.int .i64) td.size, (Value.int .i64) td.frame, (Value.int .i64) td.rights] 31 * R)))))))) := h6.eq (by (rw [show giveL s (gn.take 0) = s from rfl]; ac_rfl))
        have hgs := irow_small h7.right
        clear h6 c0 c1 c2 c3 c4 c5 cl HO
        obtain ⟨c0, c1, c2, c3, c4, c5⟩ := h7.right.right.cells6
        have cl := h7.right.right.lt
        go_wp2_with fail
        go_loopw [42] (fun t wz => ∃ (j : Nat), j ≤ gn.length ∧ t = (Value.int .i64) j ∧ Has wz (frA yf (giveL s (gn.take j)) * (irow (.slice yG gn.length yd) gn * (blk b #[.pointer (some ⟨yf, 0, none⟩), (Value.int .i64) 0, .slice (some ⟨bA, 0, none⟩) yps.length yc, .pointer (some ⟨ysh, 0, none⟩), Value.bool bz, (.slice yG gn.length yd)] 63 * (blk w.heap.size #[(Value.int .i64) 0, Value.bool false, (Value.int .i64) 0, (Value.int .i64) 0, (Value.int .i64) 0, Value.bool false] 39 * (prow (.slice (some ⟨bA, 0, none⟩) yps.length yc) yps * (shootAt ysh td (ackW wt k) * ((pcAt p l' 0 k' * Q) * (blk M #[(Value.int .i64) td.page, (Value.int .i64) td.size, (Value.int .i64) td.frame, (Value.int .i64) td.rights] 31 * R)))))))) ∧ Ext w wz) (fun t _ => gn.length - (intOf t).toNat)
        case atStart => exact ⟨0, by omega, rfl, h7, x6⟩
        case round =>
          clear h7 x6 c0 c1 c2 c3 c4 c5 cl
          obtain ⟨j, hj, rfl, hz, hxz⟩ := hrel
          obtain ⟨c0, c1, c2, c3, c4, c5⟩ := hz.right.right.cells6
          have cl := hz.right.right.lt
          by_cases hjl : j < gn.length
          · obtain ⟨bG, hG, lG, cG⟩ := irow_at hz.right hjl
            subst hG
            have et : gn.take (j + 1) = gn.take j ++ [gn[j]] := List.take_succ_eq_append_getElem hjl
            have GF := Lib.hid (fun R w h => giveA yf (giveL s (gn.take j)) R w h gn[j])
            rw [← giveL_snoc, ← et] at GF
            generalize gn[j] = v at *
            generalize (giveL s (gn.take j)).has v = bb at *
            clear et
            go_wp2_with fail
            refine (GF.out _ _ hz).mono ?_; rintro e w8 ⟨rfl, h8, x8⟩
            go_wp2_with fail
            go_roundw
            case rel => exact ⟨j + 1, by omega, by go_num, h8, hxz.trans x8⟩
            case measure => simp [intOf]; omega
          · obtain rfl : j = gn.length := by omega
            rw [List.take_length] at hz
            have h8 : Has wr (blk b #[.pointer (some ⟨yf, 0, none⟩), (Value.int .i64) 0, .slice (some ⟨bA, 0, none⟩) yps.length yc, .pointer (some ⟨ysh, 0, none⟩), Value.bool bz, (.slice yG gn.length yd)] 63 * (blk w.heap.size #[(Value.int .i64) 0, Value.bool false, (Value.int .i64) 0, (Value.int .i64) 0, (Value.int .i64) 0, Value.bool false] 39 * (prow (.slice (some ⟨bA, 0, none⟩) yps.length yc) yps * (shootAt ysh td (ackW wt k) * ((pcAt p l' 0 k' * Q) * (frA yf (giveL s gn) * (blk M #[(Value.int .i64) td.page, (Value.int .i64) td.size, (Value.int .i64) td.frame, (Value.int .i64) td.rights] 31 * (irow (.slice yG gn.length yd) gn * R)))))))) := hz.eq (by ac_rfl)
            clear hz c0 c1 c2 c3 c4 c5
            obtain ⟨c0, c1, c2, c3, c4, c5⟩ := h8.cells6
            obtain ⟨f0, f1, f2, f3, f4, f5⟩ := h8.frees6
            have h9 : Has _ (blk b #[.pointer (some ⟨yf, 0, none⟩), (Value.int .i64) 0, .slice (some ⟨bA, 0, none⟩) yps.length yc, .pointer (some ⟨ysh, 0, none⟩), Value.bool false, (.slice none 0 0)] 63 * (blk w.heap.size #[(Value.int .i64) 0, Value.bool false, (Value.int .i64) 0, (Value.int .i64) 0, (Value.int .i64) 0, Value.bool false] 39 * (prow (.slice (some ⟨bA, 0, none⟩) yps.length yc) yps * (shootAt ysh td (ackW wt k) * ((pcAt p l' 0 k' * Q) * (frA yf (giveL s gn) * (blk M #[(Value.int .i64) td.page, (Value.int .i64) td.size, (Value.int .i64) td.frame, (Value.int .i64) td.rights] 31 * (irow (.slice yG gn.length yd) gn * R)))))))) := (h8.set 4 (Value.bool false)).set 5 (.slice none 0 0)
            have x9 := (hxz.set ⟨b, 4, none⟩ (Value.bool false)).set ⟨b, 5, none⟩ (.slice none 0 0)
            go_upto_region 13 with fail
            generalize (wr.setCell ⟨b, 4, none⟩ (Value.bool false)).setCell ⟨b, 5, none⟩ (.slice none 0 0) = w9 at *
            have h10 : Has w9 (blk w.heap.size #[(Value.int .i64) 0, Value.bool false, (Value.int .i64) 0, (Value.int .i64) 0, (Value.int .i64) 0, Value.bool false] 39 * (blk b #[.pointer (some ⟨yf, 0, none⟩), (Value.int .i64) 0, .slice (some ⟨bA, 0, none⟩) yps.length yc, .pointer (some ⟨ysh, 0, none⟩), Value.bool false, (.slice none 0 0)] 63 * (prow (.slice (some ⟨bA, 0, none⟩) yps.length yc) yps * (shootAt ysh td (ackW wt k) * ((pcAt p l' 0 k' * Q) * (frA yf (giveL s gn) * (blk M #[(Value.int .i64) td.page, (Value.int .i64) td.size, (Value.int .i64) td.frame, (Value.int .i64) td.rights] 31 * (irow (.slice yG gn.length yd) gn * R)))))))) := h9.p2
            clear h8 h9 hxz c0 c1 c2 c3 c4 c5 f0 f1 f2 f3 f4 f5 cl
            obtain ⟨e0, e1, e2, e3, e4, e5⟩ := h10.cells6
            obtain ⟨f0, f1, f2, f3, f4, f5⟩ := h10.frees6
            have el := h10.lt
            have HNL := Lib.hid (fun (w' : World) (h : Has w' (blk b #[.pointer (some ⟨yf, 0, none⟩), (Value.int .i64) 0, .slice (some ⟨bA, 0, none⟩) yps.length yc, .pointer (some ⟨ysh, 0, none⟩), Value.bool false, (.slice none 0 0)] 63 * (prow (.slice (some ⟨bA, 0, none⟩) yps.length yc) yps * (shootAt ysh td (ackW wt k) * ((pcAt p l' 0 k' * Q) * (frA yf (giveL s gn) * (blk M #[(Value.int .i64) td.page, (Value.int .i64) td.size, (Value.int .i64) td.frame, (Value.int .i64) td.rights] 31 * (irow (.slice yG gn.length yd) gn * R)))))))) => HSH.out (giveL s gn) false [] none 0 w' (blk M #[(Value.int .i64) td.page, (Value.int .i64) td.size, (Value.int .i64) td.frame, (Value.int .i64) td.rights] 31 * (irow (.slice yG gn.length yd) gn * R)) ((Has.rowNil (e := 3) (size := 1) h).eq (show _ = blk b #[.pointer (some ⟨yf, 0, none⟩), (Value.int .i64) 0, .slice (some ⟨bA, 0, none⟩) yps.length yc, .pointer (some ⟨ysh, 0, none⟩), Value.bool false, (.slice none 0 0)] 63 * (prow (.slice (some ⟨bA, 0, none⟩) yps.length yc) yps * (irow (.slice none 0 0) [] * (shootAt ysh td (ackW wt k) * (pcAt p l' 0 k' * Q * (frA yf (giveL s gn) * (blk M #[(Value.int .i64) td.page, (Value.int .i64) td.size, (Value.int .i64) td.frame, (Value.int .i64) td.rights] 31 * (irow (.slice yG gn.length yd) gn * R))))))) by (show row 3 1 (.slice none 0 0) 0 [] * _ = _; unfold irow; simp only [List.map_nil, List.length_nil]; ac_rfl))))
            go_wp2_with fail
            refine ret_via (fun wz => Has wz (blk w.heap.size #[(Value.int .i64) 0, Value.bool false, (Value.int .i64) 0, (Value.int .i64) 0, (Value.int .i64) 0, Value.bool true] 39 * (blk b #[.pointer (some ⟨yf, 0, none⟩), (Value.int .i64) 0, .slice (some ⟨bA, 0, none⟩) yps.length yc, .pointer (some ⟨ysh, 0, none⟩), Value.bool false, (.slice none 0 0)] 63 * (prow (.slice (some ⟨bA, 0, none⟩) yps.length yc) yps * (shootAt ysh td (ackW wt k) * ((pcAt p l' 0 k' * Q) * (frA yf (giveL s gn) * (blk M #[(Value.int .i64) td.page, (Value.int .i64) td.size, (Value.int .i64) td.frame, (Value.int .i64) td.rights] 31 * (irow (.slice yG gn.length yd) gn * R)))))))) ∧ Ext w wz) ⟨h10.set6 _ _ _ _ _ _, by (repeat (first | with_reducible assumption | with_reducible exact Ext.refl _ | with_reducible refine Ext.set ?_ _ _ | with_reducible refine Ext.alloc ?_ _ | with_reducible refine Ext.drew ?_ | with_reducible refine Ext.drewN ?_ _ | assumption | exact Ext.refl _ | refine Ext.alloc ?_ _ | refine Ext.set ?_ _ _ | refine Ext.drew ?_ | refine Ext.drewN ?_ _ | refine Ext.below ?_ (by assumption) | refine Ext.trans ?_ (by assumption)))⟩ ?_
            rintro wz ⟨hz, xz⟩
            exact bodyPost_ret (results_c Try.results26 rfl (load_event hz)) rfl ⟨rfl, ((HNL.out _ hz.right).eq (show _ = blk M #[(Value.int .i64) td.page, (Value.int .i64) td.size, (Value.int .i64) td.frame, (Value.int .i64) td.rights] 31 * (irow (.slice yG gn.length yd) gn * (spaceAt b ⟨giveL s gn, cs', td, ackW wt k, false, []⟩ * R)) by ac_rfl)).right.right, xz⟩
end Go.Proofs.Ytmfheghbgihdmaa
namespace Go.Proofs.Ytmfheghbgihdmaa
open Go.RowKit
set_option maxRecDepth 100000
theorem set_same {cs : List Cr} {k : Nat} {c : Cr} (h : cs[k]? = some c) : cs.set k c = cs := by
  refine List.ext_getElem? fun i => ?_
  rw [List.getElem?_set]
  split
  · rename_i hki
    subst hki
    split
    · exact h.symm
    · rename_i hn
      exact absurd (List.getElem?_eq_some_iff.1 h).1 hn
  · rfl
set_option maxHeartbeats 4000000 in
theorem doS (b : Nat) (σ : Sc) (x : Stp) (hok : σ.Ok) (hq : σ.busy = false → overB σ.wait = true) (hx : x.ok) (R : HProp) (w : World) (h : Has w (spaceAt b σ * R)) :
    Calls Try.prog 8 #[.pointer (some ⟨b, 0, none⟩), .agg #[(Value.int .i64) x.kind, (Value.int .i64) x.core, (Value.int .i64) x.m.page, (Value.int .i64) x.m.size, (Value.int .i64) x.m.frame, (Value.int .i64) x.m.rights, (Value.int .i64) x.a.page, (Value.int .i64) x.a.kind, Value.bool x.a.user]] w (Res (σ.act x).2.val (spaceAt b (σ.act x).1 * R) w) := by
  have h0 : Has _ (spaceAt b σ * (blk w.heap.size #[(Value.int .i64) x.kind, (Value.int .i64) x.core, (Value.int .i64) x.m.page, (Value.int .i64) x.m.size, (Value.int .i64) x.m.frame, (Value.int .i64) x.m.rights, (Value.int .i64) x.a.page, (Value.int .i64) x.a.kind, Value.bool x.a.user] 35 * (blk (w.heap.size + 1) #[(Value.int .i64) 0, Value.bool false, (Value.int .i64) 0, (Value.int .i64) 0, (Value.int .i64) 0, Value.bool false] 39 * R))) := ((h.new #[(Value.int .i64) x.kind, (Value.int .i64) x.core, (Value.int .i64) x.m.page, (Value.int .i64) x.m.size, (Value.int .i64) x.m.frame, (Value.int .i64) x.m.rights, (Value.int .i64) x.a.page, (Value.int .i64) x.a.kind, Value.bool x.a.user] 35).new #[(Value.int .i64) 0, Value.bool false, (Value.int .i64) 0, (Value.int .i64) 0, (Value.int .i64) 0, Value.bool false] 39).eq (by simp only [World.size_alloc]; ac_rfl)
  have x0 := ((Ext.refl w).alloc (.cells #[(Value.int .i64) x.kind, (Value.int .i64) x.core, (Value.int .i64) x.m.page, (Value.int .i64) x.m.size, (Value.int .i64) x.m.frame, (Value.int .i64) x.m.rights, (Value.int .i64) x.a.page, (Value.int .i64) x.a.kind, Value.bool x.a.user] 35)).alloc (.cells #[(Value.int .i64) 0, Value.bool false, (Value.int .i64) 0, (Value.int .i64) 0, (Value.int .i64) 0, Value.bool false] 39)
  clear h
  have c0 := h0.right.cell 0
  have xl := h0.right.lt
  by_cases hc : 1 ≤ x.kind ∧ x.kind ≤ 3
  · have e : σ.act x = σ.change x := by unfold Sc.act; rw [if_pos hc]
    rw [e]
    have HC := Lib.hid (fun R w h => changeS b σ x hok hq R w h)
    unfold Ev.val at HC ⊢
    clear hok hq e
    obtain ⟨k1, k3⟩ := hc
    obtain ⟨-, c1, c2, c3, c4, c5, c6, c7, c8⟩ := (h0.right).cells9
    generalize σ.change x = p at *
    obtain ⟨σ', ⟨ec, ef, ⟨ea, eb, er⟩, ek⟩⟩ := p
    dsimp only at *
    go_enter Try.func8, Try.ntmps8
    go_wp2_with fail
    refine (HC.out _ _ h0).mono ?_; rintro e w2 ⟨rfl, h2, x2⟩
    have h3 : Has w2 (blk (w.heap.size + 1) #[(Value.int .i64) 0, Value.bool false, (Value.int .i64) 0, (Value.int .i64) 0, (Value.int .i64) 0, Value.bool false] 39 * (spaceAt b σ' * (blk w.heap.size #[(Value.int .i64) x.kind, (Value.int .i64) x.core, (Value.int .i64) x.m.page, (Value.int .i64) x.m.size, (Value.int .i64) x.m.frame, (Value.int .i64) x.m.rights, (Value.int .i64) x.a.page, (Value.int .i64) x.a.kind, Value.bool x.a.user] 35 * R))) := h2.eq (by ac_rfl)
    have x3 := x0.trans x2
    clear h0 x0 h2 x2 c0 c1 c2 c3 c4 c5 c6 c7 c8 xl HC
    obtain ⟨e0, e1, e2, e3, e4, e5⟩ := h3.cells6
    obtain ⟨f0, f1, f2, f3, f4, f5⟩ := h3.frees6
    have el := h3.lt
    go_wp2_with fail
    refine ret_via (fun wz => Has wz (blk (w.heap.size + 1) #[(Value.int .i64) ec, Value.bool ef, (Value.int .i64) ea, (Value.int .i64) eb, (Value.int .i64) er, Value.bool ek] 39 * (spaceAt b σ' * (blk w.heap.size #[(Value.int .i64) x.kind, (Value.int .i64) x.core, (Value.int .i64) x.m.page, (Value.int .i64) x.m.size, (Value.int .i64) x.m.frame, (Value.int .i64) x.m.rights, (Value.int .i64) x.a.page, (Value.int .i64) x.a.kind, Value.bool x.a.user] 35 * R))) ∧ Ext w wz) ⟨h3.set6 _ _ _ _ _ _, by (repeat (first | with_reducible assumption | with_reducible exact Ext.refl _ | with_reducible refine Ext.set ?_ _ _ | with_reducible refine Ext.alloc ?_ _ | with_reducible refine Ext.drew ?_ | with_reducible refine Ext.drewN ?_ _ | assumption | exact Ext.refl _ | refine Ext.alloc ?_ _ | refine Ext.set ?_ _ _ | refine Ext.drew ?_ | refine Ext.drewN ?_ _ | refine Ext.below ?_ (by assumption) | refine Ext.trans ?_ (by assumption)))⟩ ?_
    rintro wz ⟨hz, xz⟩
    exact bodyPost_ret (results_c Try.results8 rfl (load_event hz)) rfl ⟨rfl, hz.right.p2.right, xz⟩
  by_cases hc2 : x.kind < 1 ∨ 7 < x.kind
  · have e : σ.act x = (σ, .no 2) := by unfold Sc.act; rw [if_neg hc, if_pos hc2]
    rw [e]
    clear hok hq e
    have h3 : Has _ (blk (w.heap.size + 1) #[(Value.int .i64) 0, Value.bool false, (Value.int .i64) 0, (Value.int .i64) 0, (Value.int .i64) 0, Value.bool false] 39 * (spaceAt b σ * (blk w.heap.size #[(Value.int .i64) x.kind, (Value.int .i64) x.core, (Value.int .i64) x.m.page, (Value.int .i64) x.m.size, (Value.int .i64) x.m.frame, (Value.int .i64) x.m.rights, (Value.int .i64) x.a.page, (Value.int .i64) x.a.kind, Value.bool x.a.user] 35 * R))) := h0.eq (by ac_rfl)
    rcases hc2 with k1 | k7
    · clear hc h0
      go_enter Try.func8, Try.ntmps8
      go_upto_region 4 with fail
      generalize (w.alloc (.cells #[(Value.int .i64) x.kind, (Value.int .i64) x.core, (Value.int .i64) x.m.page, (Value.int .i64) x.m.size, (Value.int .i64) x.m.frame, (Value.int .i64) x.m.rights, (Value.int .i64) x.a.page, (Value.int .i64) x.a.kind, Value.bool x.a.user] 35)).alloc (.cells #[(Value.int .i64) 0, Value.bool false, (Value.int .i64) 0, (Value.int .i64) 0, (Value.int .i64) 0, Value.bool false] 39) = w1 at *
      generalize w.heap.size + 1 = E at *
      go_wp2_with fail
      refine (refusedS 2 _).mono ?_; rintro e w7 ⟨rfl, b7⟩
      have h7 := h3.below b7
      have x7 := x0.below b7
      clear h3 x0 b7
      obtain ⟨e0, e1, e2, e3, e4, e5⟩ := h7.cells6
      obtain ⟨f0, f1, f2, f3, f4, f5⟩ := h7.frees6
      have el := h7.lt
      go_wp2_with fail
      refine ret_via (fun wz => Has wz (blk E #[(Value.int .i64) 2, Value.bool false, (Value.int .i64) 0, (Value.int .i64) 0, (Value.int .i64) 0, Value.bool false] 39 * (spaceAt b σ * (blk w.heap.size #[(Value.int .i64) x.kind, (Value.int .i64) x.core, (Value.int .i64) x.m.page, (Value.int .i64) x.m.size, (Value.int .i64) x.m.frame, (Value.int .i64) x.m.rights, (Value.int .i64) x.a.page, (Value.int .i64) x.a.kind, Value.bool x.a.user] 35 * R))) ∧ Ext w wz) ⟨h7.set6 _ _ _ _ _ _, by (repeat (first | with_reducible assumption | with_reducible exact Ext.refl _ | with_reducible refine Ext.set ?_ _ _ | with_reducible refine Ext.alloc ?_ _ | with_reducible refine Ext.drew ?_ | with_reducible refine Ext.drewN ?_ _ | assumption | exact Ext.refl _ | refine Ext.alloc ?_ _ | refine Ext.set ?_ _ _ | refine Ext.drew ?_ | refine Ext.drewN ?_ _ | refine Ext.below ?_ (by assumption) | refine Ext.trans ?_ (by assumption)))⟩ ?_
      rintro wz ⟨hz, xz⟩
      exact bodyPost_ret (results_c Try.results8 rfl (load_event hz)) rfl ⟨rfl, hz.right.p2.right, xz⟩
    · have k3 : ¬ x.kind ≤ 3 := by omega
      have k1 : ¬ x.kind < 1 := by omega
      clear hc h0
      go_enter Try.func8, Try.ntmps8
      go_upto_region 4 with fail
      generalize (w.alloc (.cells #[(Value.int .i64) x.kind, (Value.int .i64) x.core, (Value.int .i64) x.m.page, (Value.int .i64) x.m.size, (Value.int .i64) x.m.frame, (Value.int .i64) x.m.rights, (Value.int .i64) x.a.page, (Value.int .i64) x.a.kind, Value.bool x.a.user] 35)).alloc (.cells #[(Value.int .i64) 0, Value.bool false, (Value.int .i64) 0, (Value.int .i64) 0, (Value.int .i64) 0, Value.bool false] 39) = w1 at *
      generalize w.heap.size + 1 = E at *
      go_wp2_with fail
      refine (refusedS 2 _).mono ?_; rintro e w7 ⟨rfl, b7⟩
      have h7 := h3.below b7
      have x7 := x0.below b7
      clear h3 x0 b7
      obtain ⟨e0, e1, e2, e3, e4, e5⟩ := h7.cells6
      obtain ⟨f0, f1, f2, f3, f4, f5⟩ := h7.frees6
      have el := h7.lt
      go_wp2_with fail
      refine ret_via (fun wz => Has wz (blk E #[(Value.int .i64) 2, Value.bool false, (Value.int .i64) 0, (Value.int .i64) 0, (Value.int .i64) 0, Value.bool false] 39 * (spaceAt b σ * (blk w.heap.size #[(Value.int .i64) x.kind, (Value.int .i64) x.core, (Value.int .i64) x.m.page, (Value.int .i64) x.m.size, (Value.int .i64) x.m.frame, (Value.int .i64) x.m.rights, (Value.int .i64) x.a.page, (Value.int .i64) x.a.kind, Value.bool x.a.user] 35 * R))) ∧ Ext w wz) ⟨h7.set6 _ _ _ _ _ _, by (repeat (first | with_reducible assumption | with_reducible exact Ext.refl _ | with_reducible refine Ext.set ?_ _ _ | with_reducible refine Ext.alloc ?_ _ | with_reducible refine Ext.drew ?_ | with_reducible refine Ext.drewN ?_ _ | assumption | exact Ext.refl _ | refine Ext.alloc ?_ _ | refine Ext.set ?_ _ _ | refine Ext.drew ?_ | refine Ext.drewN ?_ _ | refine Ext.below ?_ (by assumption) | refine Ext.trans ?_ (by assumption)))⟩ ?_
      rintro wz ⟨hz, xz⟩
      exact bodyPost_ret (results_c Try.results8 rfl (load_event hz)) rfl ⟨rfl, hz.right.p2.right, xz⟩
  have k3 : ¬ x.kind ≤ 3 := by omega
  have k1 : ¬ x.kind < 1 := by omega
  have k7 : ¬ 7 < x.kind := by omega
  have hx1 := h0.right.cell 1
  by_cases hc3 : x.core < 0 ∨ (σ.cs.length : Int) ≤ x.core
  · have e : σ.act x = (σ, .no 1) := by unfold Sc.act; rw [if_neg hc, if_neg hc2, if_pos hc3]
    rw [e]
    have h3 : Has _ (blk (w.heap.size + 1) #[(Value.int .i64) 0, Value.bool false, (Value.int .i64) 0, (Value.int .i64) 0, (Value.int .i64) 0, Value.bool false] 39 * (spaceAt b σ * (blk w.heap.size #[(Value.int .i64) x.kind, (Value.int .i64) x.core, (Value.int .i64) x.m.page, (Value.int .i64) x.m.size, (Value.int .i64) x.m.frame, (Value.int .i64) x.m.rights, (Value.int .i64) x.a.page, (Value.int .i64) x.a.kind, Value.bool x.a.user] 35 * R))) := h0.eq (by ac_rfl)
    obtain ⟨y, hy, h4⟩ := spaceAt_open h0
    unfold spaceIn at h4
    obtain ⟨b0, b1, b2, b3, b4, b5⟩ := h4.cells6
    have bl := h4.lt
    rw [← hy] at hc3
    clear hok hq e hc hc2 h0 h4 hy
    rcases hc3 with n0 | n1
    · go_enter Try.func8, Try.ntmps8
      go_upto_region 5 with fail
      go_region
      all_goals
        go_upto_region 6 with fail
        generalize (w.alloc (.cells #[(Value.int .i64) x.kind, (Value.int .i64) x.core, (Value.int .i64) x.m.page, (Value.int .i64) x.m.size, (Value.int .i64) x.m.frame, (Value.int .i64) x.m.rights, (Value.int .i64) x.a.page, (Value.int .i64) x.a.kind, Value.bool x.a.user] 35)).alloc (.cells #[(Value.int .i64) 0, Value.bool false, (Value.int .i64) 0, (Value.int .i64) 0, (Value.int .i64) 0, Value.bool false] 39) = w1 at *
        generalize w.heap.size + 1 = E at *
        have g3 := h3.drew
        have y0 := x0.drew
        go_wp2_with fail
        refine (refusedS 1 _).mono ?_; rintro e w7 ⟨rfl, b7⟩
        have h7 := g3.below b7
        have x7 := y0.below b7
        clear g3 y0 b7
        obtain ⟨e0, e1, e2, e3, e4, e5⟩ := h7.cells6
        obtain ⟨f0, f1, f2, f3, f4, f5⟩ := h7.frees6
        have el := h7.lt
        go_wp2_with fail
        refine ret_via (fun wz => Has wz (blk E #[(Value.int .i64) 1, Value.bool false, (Value.int .i64) 0, (Value.int .i64) 0, (Value.int .i64) 0, Value.bool false] 39 * (spaceAt b σ * (blk w.heap.size #[(Value.int .i64) x.kind, (Value.int .i64) x.core, (Value.int .i64) x.m.page, (Value.int .i64) x.m.size, (Value.int .i64) x.m.frame, (Value.int .i64) x.m.rights, (Value.int .i64) x.a.page, (Value.int .i64) x.a.kind, Value.bool x.a.user] 35 * R))) ∧ Ext w wz) ⟨h7.set6 _ _ _ _ _ _, by (repeat (first | with_reducible assumption | with_reducible exact Ext.refl _ | with_reducible refine Ext.set ?_ _ _ | with_reducible refine Ext.alloc ?_ _ | with_reducible refine Ext.drew ?_ | with_reducible refine Ext.drewN ?_ _ | assumption | exact Ext.refl _ | refine Ext.alloc ?_ _ | refine Ext.set ?_ _ _ | refine Ext.drew ?_ | refine Ext.drewN ?_ _ | refine Ext.below ?_ (by assumption) | refine Ext.trans ?_ (by assumption)))⟩ ?_
        rintro wz ⟨hz, xz⟩
        exact bodyPost_ret (results_c Try.results8 rfl (load_event hz)) rfl ⟨rfl, hz.right.p2.right, xz⟩
    · have n0 : ¬ x.core < 0 := by omega
      go_enter Try.func8, Try.ntmps8
      go_upto_region 5 with fail
      go_region
      all_goals
        go_upto_region 6 with fail
        generalize (w.alloc (.cells #[(Value.int .i64) x.kind, (Value.int .i64) x.core, (Value.int .i64) x.m.page, (Value.int .i64) x.m.size, (Value.int .i64) x.m.frame, (Value.int .i64) x.m.rights, (Value.int .i64) x.a.page, (Value.int .i64) x.a.kind, Value.bool x.a.user] 35)).alloc (.cells #[(Value.int .i64) 0, Value.bool false, (Value.int .i64) 0, (Value.int .i64) 0, (Value.int .i64) 0, Value.bool false] 39) = w1 at *
        generalize w.heap.size + 1 = E at *
        have g3 := h3.drew
        have y0 := x0.drew
        go_wp2_with fail
        refine (refusedS 1 _).mono ?_; rintro e w7 ⟨rfl, b7⟩
        have h7 := g3.below b7
        have x7 := y0.below b7
        clear g3 y0 b7
        obtain ⟨e0, e1, e2, e3, e4, e5⟩ := h7.cells6
        obtain ⟨f0, f1, f2, f3, f4, f5⟩ := h7.frees6
        have el := h7.lt
        go_wp2_with fail
        refine ret_via (fun wz => Has wz (blk E #[(Value.int .i64) 1, Value.bool false, (Value.int .i64) 0, (Value.int .i64) 0, (Value.int .i64) 0, Value.bool false] 39 * (spaceAt b σ * (blk w.heap.size #[(Value.int .i64) x.kind, (Value.int .i64) x.core, (Value.int .i64) x.m.page, (Value.int .i64) x.m.size, (Value.int .i64) x.m.frame, (Value.int .i64) x.m.rights, (Value.int .i64) x.a.page, (Value.int .i64) x.a.kind, Value.bool x.a.user] 35 * R))) ∧ Ext w wz) ⟨h7.set6 _ _ _ _ _ _, by (repeat (first | with_reducible assumption | with_reducible exact Ext.refl _ | with_reducible refine Ext.set ?_ _ _ | with_reducible refine Ext.alloc ?_ _ | with_reducible refine Ext.drew ?_ | with_reducible refine Ext.drewN ?_ _ | assumption | exact Ext.refl _ | refine Ext.alloc ?_ _ | refine Ext.set ?_ _ _ | refine Ext.drew ?_ | refine Ext.drewN ?_ _ | refine Ext.below ?_ (by assumption) | refine Ext.trans ?_ (by assumption)))⟩ ?_
        rintro wz ⟨hz, xz⟩
        exact bodyPost_ret (results_c Try.results8 rfl (load_event hz)) rfl ⟨rfl, hz.right.p2.right, xz⟩
  obtain ⟨k, hk⟩ := Int.eq_ofNat_of_zero_le (show 0 ≤ x.core by omega)
  have hkl : k < σ.cs.length := by omega
  have ea : σ.act x = if x.kind = 4 then σ.access k x.a else if x.kind = 5 then σ.walk k else if x.kind = 6 then σ.ack k else σ.evict k := by
    unfold Sc.act
    rw [if_neg hc, if_neg hc2, if_neg hc3, hk]
    rfl
  have hcr := Sc.core_ok hok k
  have hat := Safe.at_core hkl
  obtain ⟨hop, _, hMo, hAc⟩ := hx
  obtain ⟨kx, cx, mx, ax⟩ := x
  dsimp only at *
  subst hk
  have HACK := Lib.hid (fun R w h => ackS b σ k hok hkl R w h)
  unfold Ev.val at HACK
  clear hc hc2 hc3 hq hop
  obtain ⟨y, hy, h4⟩ := spaceAt_open h0
  unfold spaceIn at h4
  have hkp : k < y.ps.length := by omega
  have hkl' : (k : Int) < y.ps.length := by omega
  obtain ⟨Q, eQ, eS⟩ := cores_at (List.getElem?_eq_getElem hkp) hat
  obtain ⟨bA, hA, lA, cA⟩ := prow_at h4.right (List.getElem?_eq_getElem hkp)
  have hpk := List.getElem?_eq_getElem hkp
  rw [eQ] at h4
  have HS := Lib.hid (fun (s' : Ms) (c' : Cr) (w' : World) (R' : HProp) (h : Has w' (spaceIn b { σ.put k c' with s := s' } y R')) => spaceAt_shut (σ := { σ.put k c' with s := s' }) (by rw [hy]; exact (Sc.put_len σ k c').symm) h)
  unfold spaceIn Sc.put at HS
  dsimp only at HS
  have HS2 := Lib.hid (fun (s' : Ms) (c' : Cr) (w' : World) (R' : HProp) h => HS.out s' c' w' R' (by rw [eS c']; exact h))
  have hset : σ.cs.set k (σ.core k) = σ.cs := set_same hat
  clear HS eS eQ hy hat
  obtain ⟨b0, b1, b2, b3, b4, b5⟩ := h4.cells6
  have bl := h4.lt
  rw [hA] at b2
  generalize y.ps[k] = p at *
  have h5 : Has _ (pcAt p (σ.core k).l 0 (σ.core k).k * (frA y.f σ.s * ((blk b #[.pointer (some ⟨y.f, 0, none⟩), (Value.int .i64) 0, .slice y.A y.ps.length y.c, .pointer (some ⟨y.sh, 0, none⟩), Value.bool σ.busy, .slice y.G σ.gone.length y.d] 63 * (prow (.slice y.A y.ps.length y.c) y.ps * (irow (.slice y.G σ.gone.length y.d) σ.gone * (shootAt y.sh σ.told σ.wait * Q)))) * (blk w.heap.size #[(Value.int .i64) kx, (Value.int .i64) k, (Value.int .i64) mx.page, (Value.int .i64) mx.size, (Value.int .i64) mx.frame, (Value.int .i64) mx.rights, (Value.int .i64) ax.page, (Value.int .i64) ax.kind, Value.bool ax.user] 35 * (blk (w.heap.size + 1) #[(Value.int .i64) 0, Value.bool false, (Value.int .i64) 0, (Value.int .i64) 0, (Value.int .i64) 0, Value.bool false] 39 * R))))) := h4.drew.eq (by ac_rfl)
  have HS3 := Lib.hid (fun (s' : Ms) (c' : Cr) (w' : World) (R' : HProp) (h : Has w' (pcAt p c'.l 0 c'.k * (frA y.f s' * ((blk b #[.pointer (some ⟨y.f, 0, none⟩), (Value.int .i64) 0, .slice y.A y.ps.length y.c, .pointer (some ⟨y.sh, 0, none⟩), Value.bool σ.busy, .slice y.G σ.gone.length y.d] 63 * (prow (.slice y.A y.ps.length y.c) y.ps * (irow (.slice y.G σ.gone.length y.d) σ.gone * (shootAt y.sh σ.told σ.wait * Q)))) * R')))) => HS2.out s' c' w' R' (h.eq (by ac_rfl)))
  generalize (blk b #[.pointer (some ⟨y.f, 0, none⟩), (Value.int .i64) 0, .slice y.A y.ps.length y.c, .pointer (some ⟨y.sh, 0, none⟩), Value.bool σ.busy, .slice y.G σ.gone.length y.d] 63 * (prow (.slice y.A y.ps.length y.c) y.ps * (irow (.slice y.G σ.gone.length y.d) σ.gone * (shootAt y.sh σ.told σ.wait * Q)))) = Z at *
  have h0d := h0.drew
  have x0d := x0.drew
  obtain ⟨-, -, d2, d3, d4, d5, d6, d7, d8⟩ := h0.right.cells9
  clear h0 h4 HS2
  have hk0 : ¬ (k : Int) < 0 := by omega
  by_cases o4 : kx = 4
  · as_aux_lemma =>
    --[A
    rw [ea, if_pos o4]
    unfold Sc.access
    have HB := Lib.hid (fun R w h => beginC p (σ.core k).l 0 (σ.core k).k ax hcr.1 hAc.1 R w h)
    generalize σ.core k = cc at *
    generalize coreB cc.l 0 cc.k ax = q at *
    obtain ⟨⟨qa, qf, qr⟩, fin, code, ck'⟩ := q
    have HS4 := Lib.hid (HS3.out σ.s ⟨cc.l, ck'⟩)
    unfold Ev.val
    dsimp only at *
    subst o4
    clear HACK h0d ea hcr HS3
    go_enter Try.func8, Try.ntmps8
    go_upto_region 5 with fail
    go_region
    go_upto_region 7 with fail
    go_region
    go_upto_region 10 with fail
    generalize (w.alloc (.cells #[(Value.int .i64) 4, (Value.int .i64) k, (Value.int .i64) mx.page, (Value.int .i64) mx.size, (Value.int .i64) mx.frame, (Value.int .i64) mx.rights, (Value.int .i64) ax.page, (Value.int .i64) ax.kind, Value.bool ax.user] 35)).alloc (.cells #[(Value.int .i64) 0, Value.bool false, (Value.int .i64) 0, (Value.int .i64) 0, (Value.int .i64) 0, Value.bool false] 39) = w1 at *
    generalize w.heap.size = X at *
    generalize X + 1 = E at *
    have g5 := h5.drew
    have y0 := x0d.drew
    have e3 := g5.right.right.right.cell 6
    have e4 := g5.right.right.right.cell 7
    have e5 := g5.right.right.right.cell 8
    have el := g5.right.right.right.lt
    clear h5 x0d b0 b1 b2 b3 b4 b5 bl cA lA c0 d2 d3 d4 d5 d6 d7 d8 xl
    go_wp2_with fail
    with_reducible refine (HB.out _ _ g5).mono ?_
    rintro e w5 ⟨rfl, h6, x6⟩
    have x7 := y0.trans x6
    clear g5 y0 x6 HB e3 e4 e5 el
    go_wp2_with fail
    refine (toldS qa qf qr code fin _).mono ?_; rintro e w6 ⟨rfl, b6⟩
    have h7 : Has w6 (blk E #[(Value.int .i64) 0, Value.bool false, (Value.int .i64) 0, (Value.int .i64) 0, (Value.int .i64) 0, Value.bool false] 39 * (pcAt p cc.l 0 ck' * (frA y.f σ.s * (Z * (blk X #[(Value.int .i64) 4, (Value.int .i64) k, (Value.int .i64) mx.page, (Value.int .i64) mx.size, (Value.int .i64) mx.frame, (Value.int .i64) mx.rights, (Value.int .i64) ax.page, (Value.int .i64) ax.kind, Value.bool ax.user] 35 * R))))) := (h6.below b6).eq (by ac_rfl)
    have x8 := x7.below b6
    clear h6 x7 b6
    obtain ⟨e0, e1, e2, e3, e4, e5⟩ := h7.cells6
    obtain ⟨f0, f1, f2, f3, f4, f5⟩ := h7.frees6
    have el := h7.lt
    go_wp2_with fail
    refine ret_via (fun wz => Has wz (blk E #[(Value.int .i64) code, Value.bool fin, (Value.int .i64) qa, (Value.int .i64) qf, (Value.int .i64) qr, Value.bool false] 39 * (pcAt p cc.l 0 ck' * (frA y.f σ.s * (Z * (blk X #[(Value.int .i64) 4, (Value.int .i64) k, (Value.int .i64) mx.page, (Value.int .i64) mx.size, (Value.int .i64) mx.frame, (Value.int .i64) mx.rights, (Value.int .i64) ax.page, (Value.int .i64) ax.kind, Value.bool ax.user] 35 * R))))) ∧ Ext w wz) ⟨h7.set6 _ _ _ _ _ _, by (repeat (first | with_reducible assumption | with_reducible exact Ext.refl _ | with_reducible refine Ext.set ?_ _ _ | with_reducible refine Ext.alloc ?_ _ | with_reducible refine Ext.drew ?_ | with_reducible refine Ext.drewN ?_ _ | assumption | exact Ext.refl _ | refine Ext.alloc ?_ _ | refine Ext.set ?_ _ _ | refine Ext.drew ?_ | refine Ext.drewN ?_ _ | refine Ext.below ?_ (by assumption) | refine Ext.trans ?_ (by assumption)))⟩ ?_
    rintro wz ⟨hz, xz⟩
    exact bodyPost_ret (results_c Try.results8 rfl (load_event hz)) rfl ⟨rfl, (HS4.out _ (blk X #[(Value.int .i64) 4, (Value.int .i64) k, (Value.int .i64) mx.page, (Value.int .i64) mx.size, (Value.int .i64) mx.frame, (Value.int .i64) mx.rights, (Value.int .i64) ax.page, (Value.int .i64) ax.kind, Value.bool ax.user] 35 * R) hz.right).p2.right, xz⟩
    --A]
  by_cases o5 : kx = 5
  · as_aux_lemma =>
    --[B
    rw [ea, if_neg o4, if_pos o5]
    unfold Sc.walk
    have HB := Lib.hid (fun R w h => stepA p y.f (σ.core k) σ.s hcr R w h)
    generalize σ.core k = cc at *
    have HKL : Hid (∃ l', keepL cc.l (stepC σ.s 0 cc.k).r = l') := Lib.hid ⟨_, rfl⟩
    obtain ⟨l', hl'⟩ := HKL.out
    rw [hl'] at HB ⊢
    clear hl' HKL
    generalize stepC σ.s 0 cc.k = q at *
    obtain ⟨ck', s', ⟨fin, ⟨qa, qf, qr⟩, ln⟩, code⟩ := q
    have HS4 := Lib.hid (HS3.out s' ⟨l', ck'⟩)
    unfold Ev.val
    dsimp only at *
    subst o5
    clear HACK h0d ea hcr HS3 o4
    go_enter Try.func8, Try.ntmps8
    go_upto_region 5 with fail
    go_region
    go_upto_region 7 with fail
    go_region
    go_upto_region 12 with fail
    generalize (w.alloc (.cells #[(Value.int .i64) 5, (Value.int .i64) k, (Value.int .i64) mx.page, (Value.int .i64) mx.size, (Value.int .i64) mx.frame, (Value.int .i64) mx.rights, (Value.int .i64) ax.page, (Value.int .i64) ax.kind, Value.bool ax.user] 35)).alloc (.cells #[(Value.int .i64) 0, Value.bool false, (Value.int .i64) 0, (Value.int .i64) 0, (Value.int .i64) 0, Value.bool false] 39) = w1 at *
    generalize w.heap.size = X at *
    generalize X + 1 = E at *
    have g5 := h5.drew
    have y0 := x0d.drew
    clear h5 x0d b1 b2 b3 b4 b5 cA lA c0 d2 d3 d4 d5 d6 d7 d8 xl
    go_wp2_with fail
    with_reducible refine (HB.out _ _ g5).mono ?_
    rintro e w5 ⟨rfl, h6, x6⟩
    have x7 := y0.trans x6
    clear g5 y0 x6 HB b0 bl
    go_wp2_with fail
    refine (toldS qa qf qr code fin _).mono ?_; rintro e w6 ⟨rfl, b6⟩
    have h7 : Has w6 (blk E #[(Value.int .i64) 0, Value.bool false, (Value.int .i64) 0, (Value.int .i64) 0, (Value.int .i64) 0, Value.bool false] 39 * (pcAt p l' 0 ck' * (frA y.f s' * (Z * (blk X #[(Value.int .i64) 5, (Value.int .i64) k, (Value.int .i64) mx.page, (Value.int .i64) mx.size, (Value.int .i64) mx.frame, (Value.int .i64) mx.rights, (Value.int .i64) ax.page, (Value.int .i64) ax.kind, Value.bool ax.user] 35 * R))))) := (h6.below b6).eq (by ac_rfl)
    have x8 := x7.below b6
    clear h6 x7 b6
    obtain ⟨e0, e1, e2, e3, e4, e5⟩ := h7.cells6
    obtain ⟨f0, f1, f2, f3, f4, f5⟩ := h7.frees6
    have el := h7.lt
    go_wp2_with fail
    refine ret_via (fun wz => Has wz (blk E #[(Value.int .i64) code, Value.bool fin, (Value.int .i64) qa, (Value.int .i64) qf, (Value.int .i64) qr, Value.bool false] 39 * (pcAt p l' 0 ck' * (frA y.f s' * (Z * (blk X #[(Value.int .i64) 5, (Value.int .i64) k, (Value.int .i64) mx.page, (Value.int .i64) mx.size, (Value.int .i64) mx.frame, (Value.int .i64) mx.rights, (Value.int .i64) ax.page, (Value.int .i64) ax.kind, Value.bool ax.user] 35 * R))))) ∧ Ext w wz) ⟨h7.set6 _ _ _ _ _ _, by (repeat (first | with_reducible assumption | with_reducible exact Ext.refl _ | with_reducible refine Ext.set ?_ _ _ | with_reducible refine Ext.alloc ?_ _ | with_reducible refine Ext.drew ?_ | with_reducible refine Ext.drewN ?_ _ | assumption | exact Ext.refl _ | refine Ext.alloc ?_ _ | refine Ext.set ?_ _ _ | refine Ext.drew ?_ | refine Ext.drewN ?_ _ | refine Ext.below ?_ (by assumption) | refine Ext.trans ?_ (by assumption)))⟩ ?_
    rintro wz ⟨hz, xz⟩
    exact bodyPost_ret (results_c Try.results8 rfl (load_event hz)) rfl ⟨rfl, (HS4.out _ (blk X #[(Value.int .i64) 5, (Value.int .i64) k, (Value.int .i64) mx.page, (Value.int .i64) mx.size, (Value.int .i64) mx.frame, (Value.int .i64) mx.rights, (Value.int .i64) ax.page, (Value.int .i64) ax.kind, Value.bool ax.user] 35 * R) hz.right).p2.right, xz⟩
    --B]
  by_cases o6 : kx = 6
  · as_aux_lemma =>
    --[C
    rw [ea, if_neg o4, if_neg o5, if_pos o6]
    unfold Ev.val
    clear h5 HS3 ea hcr o4 o5
    generalize σ.ack k = q at *
    obtain ⟨σ', ⟨ec, ef, ⟨qa, qb, qr⟩, ek⟩⟩ := q
    dsimp only at *
    subst o6
    go_enter Try.func8, Try.ntmps8
    go_upto_region 5 with fail
    go_region
    go_upto_region 7 with fail
    go_region
    go_upto_region 14 with fail
    generalize (w.alloc (.cells #[(Value.int .i64) 6, (Value.int .i64) k, (Value.int .i64) mx.page, (Value.int .i64) mx.size, (Value.int .i64) mx.frame, (Value.int .i64) mx.rights, (Value.int .i64) ax.page, (Value.int .i64) ax.kind, Value.bool ax.user] 35)).alloc (.cells #[(Value.int .i64) 0, Value.bool false, (Value.int .i64) 0, (Value.int .i64) 0, (Value.int .i64) 0, Value.bool false] 39) = w1 at *
    generalize w.heap.size = X at *
    generalize X + 1 = E at *
    have g5 := h0d.drew
    have y0 := x0d.drew
    have e1 := g5.right.cell 1
    have el := g5.right.lt
    clear h0d x0d b0 b1 b2 b3 b4 b5 bl cA lA c0 d2 d3 d4 d5 d6 d7 d8 xl
    go_wp2_with fail
    with_reducible refine (HACK.out _ _ g5).mono ?_
    rintro e w5 ⟨rfl, h6, x6⟩
    have h7 : Has w5 (blk E #[(Value.int .i64) 0, Value.bool false, (Value.int .i64) 0, (Value.int .i64) 0, (Value.int .i64) 0, Value.bool false] 39 * (spaceAt b σ' * (blk X #[(Value.int .i64) 6, (Value.int .i64) k, (Value.int .i64) mx.page, (Value.int .i64) mx.size, (Value.int .i64) mx.frame, (Value.int .i64) mx.rights, (Value.int .i64) ax.page, (Value.int .i64) ax.kind, Value.bool ax.user] 35 * R))) := h6.eq (by ac_rfl)
    have x8 := y0.trans x6
    clear g5 y0 x6 h6 HACK e1 el
    obtain ⟨e0, e1, e2, e3, e4, e5⟩ := h7.cells6
    obtain ⟨f0, f1, f2, f3, f4, f5⟩ := h7.frees6
    have el := h7.lt
    go_wp2_with fail
    refine ret_via (fun wz => Has wz (blk E #[(Value.int .i64) ec, Value.bool ef, (Value.int .i64) qa, (Value.int .i64) qb, (Value.int .i64) qr, Value.bool ek] 39 * (spaceAt b σ' * (blk X #[(Value.int .i64) 6, (Value.int .i64) k, (Value.int .i64) mx.page, (Value.int .i64) mx.size, (Value.int .i64) mx.frame, (Value.int .i64) mx.rights, (Value.int .i64) ax.page, (Value.int .i64) ax.kind, Value.bool ax.user] 35 * R))) ∧ Ext w wz) ⟨h7.set6 _ _ _ _ _ _, by (repeat (first | with_reducible assumption | with_reducible exact Ext.refl _ | with_reducible refine Ext.set ?_ _ _ | with_reducible refine Ext.alloc ?_ _ | with_reducible refine Ext.drew ?_ | with_reducible refine Ext.drewN ?_ _ | assumption | exact Ext.refl _ | refine Ext.alloc ?_ _ | refine Ext.set ?_ _ _ | refine Ext.drew ?_ | refine Ext.drewN ?_ _ | refine Ext.below ?_ (by assumption) | refine Ext.trans ?_ (by assumption)))⟩ ?_
    rintro wz ⟨hz, xz⟩
    exact bodyPost_ret (results_c Try.results8 rfl (load_event hz)) rfl ⟨rfl, hz.right.p2.right, xz⟩
    --C]
  have o7 : kx = 7 := by omega
  as_aux_lemma =>
    --[D
    rw [ea, if_neg o4, if_neg o5, if_neg o6]
    unfold Sc.evict
    have HE := Lib.hid (fun t R w h => evictT t (σ.core k).l R w h)
    clear HACK h0d ea hcr
    generalize σ.core k = cc at *
    obtain ⟨cl, ck⟩ := cc
    dsimp only at *
    subst o7
    cases cl with
    | nil =>
      rw [if_pos rfl]
      have HS4 := Lib.hid (HS3.out σ.s ⟨[], ck⟩)
      rw [hset] at HS4
      rw [show decide (0 < ([] : List Ln).length) = false from rfl, show Tl.evict [] = [] from rfl] at HE
      unfold Ev.val Ev.no An.zero
      dsimp only
      clear HS3 hset
      go_enter Try.func8, Try.ntmps8
      go_upto_region 5 with fail
      go_region
      go_upto_region 7 with fail
      go_region
      go_upto_region 15 with fail
      generalize (w.alloc (.cells #[(Value.int .i64) 7, (Value.int .i64) k, (Value.int .i64) mx.page, (Value.int .i64) mx.size, (Value.int .i64) mx.frame, (Value.int .i64) mx.rights, (Value.int .i64) ax.page, (Value.int .i64) ax.kind, Value.bool ax.user] 35)).alloc (.cells #[(Value.int .i64) 0, Value.bool false, (Value.int .i64) 0, (Value.int .i64) 0, (Value.int .i64) 0, Value.bool false] 39) = w1 at *
      generalize w.heap.size = X at *
      generalize X + 1 = E at *
      have g5 := h5.drew
      have y0 := x0d.drew
      clear h5 x0d b0 b1 b2 b3 b4 b5 bl cA lA c0 d2 d3 d4 d5 d6 d7 d8 xl
      obtain ⟨t, v, g4⟩ := pcAt_open g5
      obtain ⟨t0, t1⟩ := g4.cells2
      have tl := g4.lt
      go_wp2_with fail
      with_reducible refine (HE.out _ _ _ g4.p2).mono ?_
      rintro e w5 ⟨rfl, h6, x6⟩
      have x7 := y0.trans x6
      clear g4 g5 t0 t1 tl y0 x6
      have h6' : Has w5 (blk p #[.pointer (some ⟨t, 0, none⟩), .pointer (some ⟨v, 0, none⟩)] 74 * (tlbAt t [] * (walkerAt v 0 ck * (frA y.f σ.s * (Z * (blk X #[(Value.int .i64) 7, (Value.int .i64) k, (Value.int .i64) mx.page, (Value.int .i64) mx.size, (Value.int .i64) mx.frame, (Value.int .i64) mx.rights, (Value.int .i64) ax.page, (Value.int .i64) ax.kind, Value.bool ax.user] 35 * (blk E #[(Value.int .i64) 0, Value.bool false, (Value.int .i64) 0, (Value.int .i64) 0, (Value.int .i64) 0, Value.bool false] 39 * R))))))) := h6.eq (by ac_rfl)
      have h7 : Has w5 (blk E #[(Value.int .i64) 0, Value.bool false, (Value.int .i64) 0, (Value.int .i64) 0, (Value.int .i64) 0, Value.bool false] 39 * (pcAt p [] 0 ck * (frA y.f σ.s * (Z * (blk X #[(Value.int .i64) 7, (Value.int .i64) k, (Value.int .i64) mx.page, (Value.int .i64) mx.size, (Value.int .i64) mx.frame, (Value.int .i64) mx.rights, (Value.int .i64) ax.page, (Value.int .i64) ax.kind, Value.bool ax.user] 35 * R))))) := (pcAt_shut h6').eq (by ac_rfl)
      clear h6 h6'
      have g7 := h7
      have y7 := x7
      clear h7 x7
      go_wp2_with fail
      refine (refusedS 9 _).mono ?_; rintro e w7 ⟨rfl, b7⟩
      have h7 := g7.below b7
      have x7 := y7.below b7
      clear g7 y7 b7
      obtain ⟨e0, e1, e2, e3, e4, e5⟩ := h7.cells6
      obtain ⟨f0, f1, f2, f3, f4, f5⟩ := h7.frees6
      have el := h7.lt
      go_wp2_with fail
      refine ret_via (fun wz => Has wz (blk E #[(Value.int .i64) 9, Value.bool false, (Value.int .i64) 0, (Value.int .i64) 0, (Value.int .i64) 0, Value.bool false] 39 * (pcAt p [] 0 ck * (frA y.f σ.s * (Z * (blk X #[(Value.int .i64) 7, (Value.int .i64) k, (Value.int .i64) mx.page, (Value.int .i64) mx.size, (Value.int .i64) mx.frame, (Value.int .i64) mx.rights, (Value.int .i64) ax.page, (Value.int .i64) ax.kind, Value.bool ax.user] 35 * R))))) ∧ Ext w wz) ⟨h7.set6 _ _ _ _ _ _, by (repeat (first | with_reducible assumption | with_reducible exact Ext.refl _ | with_reducible refine Ext.set ?_ _ _ | with_reducible refine Ext.alloc ?_ _ | with_reducible refine Ext.drew ?_ | with_reducible refine Ext.drewN ?_ _ | assumption | exact Ext.refl _ | refine Ext.alloc ?_ _ | refine Ext.set ?_ _ _ | refine Ext.drew ?_ | refine Ext.drewN ?_ _ | refine Ext.below ?_ (by assumption) | refine Ext.trans ?_ (by assumption)))⟩ ?_
      rintro wz ⟨hz, xz⟩
      exact bodyPost_ret (results_c Try.results8 rfl (load_event hz)) rfl ⟨rfl, (HS4.out _ (blk X #[(Value.int .i64) 7, (Value.int .i64) k, (Value.int .i64) mx.page, (Value.int .i64) mx.size, (Value.int .i64) mx.frame, (Value.int .i64) mx.rights, (Value.int .i64) ax.page, (Value.int .i64) ax.kind, Value.bool ax.user] 35 * R) hz.right).p2.right, xz⟩
    | cons z cl =>
      rw [if_neg (by simp)]
      have HS4 := Lib.hid (HS3.out σ.s ⟨Tl.evict (z :: cl), ck⟩)
      rw [show decide (0 < (z :: cl).length) = true from decide_eq_true (by simp)] at HE
      unfold Ev.val Ev.no An.zero
      dsimp only
      clear HS3 hset
      generalize Tl.evict (z :: cl) = l' at *
      go_enter Try.func8, Try.ntmps8
      go_upto_region 5 with fail
      go_region
      go_upto_region 7 with fail
      go_region
      go_upto_region 15 with fail
      generalize (w.alloc (.cells #[(Value.int .i64) 7, (Value.int .i64) k, (Value.int .i64) mx.page, (Value.int .i64) mx.size, (Value.int .i64) mx.frame, (Value.int .i64) mx.rights, (Value.int .i64) ax.page, (Value.int .i64) ax.kind, Value.bool ax.user] 35)).alloc (.cells #[(Value.int .i64) 0, Value.bool false, (Value.int .i64) 0, (Value.int .i64) 0, (Value.int .i64) 0, Value.bool false] 39) = w1 at *
      generalize w.heap.size = X at *
      generalize X + 1 = E at *
      have g5 := h5.drew
      have y0 := x0d.drew
      clear h5 x0d b0 b1 b2 b3 b4 b5 bl cA lA c0 d2 d3 d4 d5 d6 d7 d8 xl
      obtain ⟨t, v, g4⟩ := pcAt_open g5
      obtain ⟨t0, t1⟩ := g4.cells2
      have tl := g4.lt
      go_wp2_with fail
      with_reducible refine (HE.out _ _ _ g4.p2).mono ?_
      rintro e w5 ⟨rfl, h6, x6⟩
      have x7 := y0.trans x6
      clear g4 g5 t0 t1 tl y0 x6
      have h6' : Has w5 (blk p #[.pointer (some ⟨t, 0, none⟩), .pointer (some ⟨v, 0, none⟩)] 74 * (tlbAt t l' * (walkerAt v 0 ck * (frA y.f σ.s * (Z * (blk X #[(Value.int .i64) 7, (Value.int .i64) k, (Value.int .i64) mx.page, (Value.int .i64) mx.size, (Value.int .i64) mx.frame, (Value.int .i64) mx.rights, (Value.int .i64) ax.page, (Value.int .i64) ax.kind, Value.bool ax.user] 35 * (blk E #[(Value.int .i64) 0, Value.bool false, (Value.int .i64) 0, (Value.int .i64) 0, (Value.int .i64) 0, Value.bool false] 39 * R))))))) := h6.eq (by ac_rfl)
      have h7 : Has w5 (blk E #[(Value.int .i64) 0, Value.bool false, (Value.int .i64) 0, (Value.int .i64) 0, (Value.int .i64) 0, Value.bool false] 39 * (pcAt p l' 0 ck * (frA y.f σ.s * (Z * (blk X #[(Value.int .i64) 7, (Value.int .i64) k, (Value.int .i64) mx.page, (Value.int .i64) mx.size, (Value.int .i64) mx.frame, (Value.int .i64) mx.rights, (Value.int .i64) ax.page, (Value.int .i64) ax.kind, Value.bool ax.user] 35 * R))))) := (pcAt_shut h6').eq (by ac_rfl)
      clear h6 h6'
      obtain ⟨e0, e1, e2, e3, e4, e5⟩ := h7.cells6
      obtain ⟨f0, f1, f2, f3, f4, f5⟩ := h7.frees6
      have el := h7.lt
      go_wp2_with fail
      refine ret_via (fun wz => Has wz (blk E #[(Value.int .i64) 0, Value.bool false, (Value.int .i64) 0, (Value.int .i64) 0, (Value.int .i64) 0, Value.bool false] 39 * (pcAt p l' 0 ck * (frA y.f σ.s * (Z * (blk X #[(Value.int .i64) 7, (Value.int .i64) k, (Value.int .i64) mx.page, (Value.int .i64) mx.size, (Value.int .i64) mx.frame, (Value.int .i64) mx.rights, (Value.int .i64) ax.page, (Value.int .i64) ax.kind, Value.bool ax.user] 35 * R))))) ∧ Ext w wz) ⟨h7.set6 _ _ _ _ _ _, by (repeat (first | with_reducible assumption | with_reducible exact Ext.refl _ | with_reducible refine Ext.set ?_ _ _ | with_reducible refine Ext.alloc ?_ _ | with_reducible refine Ext.drew ?_ | with_reducible refine Ext.drewN ?_ _ | assumption | exact Ext.refl _ | refine Ext.alloc ?_ _ | refine Ext.set ?_ _ _ | refine Ext.drew ?_ | refine Ext.drewN ?_ _ | refine Ext.below ?_ (by assumption) | refine Ext.trans ?_ (by assumption)))⟩ ?_
      rintro wz ⟨hz, xz⟩
      exact bodyPost_ret (results_c Try.results8 rfl (load_event hz)) rfl ⟨rfl, (HS4.out _ (blk X #[(Value.int .i64) 7, (Value.int .i64) k, (Value.int .i64) mx.page, (Value.int .i64) mx.size, (Value.int .i64) mx.frame, (Value.int .i64) mx.rights, (Value.int .i64) ax.page, (Value.int .i64) ax.kind, Value.bool ax.user] 35 * R) hz.right).p2.right, xz⟩
    --D]
end Go.Proofs.Ytmfheghbgihdmaa
namespace Go.Proofs.Ytmfheghbgihdmaa
open Go.RowKit
set_option maxRecDepth 100000
section
variable (b : Nat) (σ : Sc) (R : HProp) (w : World) (h : Has w (spaceAt b σ * R))
include h
theorem busyS : Calls Try.prog 13 #[.pointer (some ⟨b, 0, none⟩)] w (Same (Value.bool σ.busy) w) := by
  obtain ⟨y, _, h⟩ := spaceAt_open h
  unfold spaceIn at h
  obtain ⟨c0, c1, c2, c3, c4, c5⟩ := h.cells6
  have cl := h.lt
  clear h
  go_enter Try.func13, Try.ntmps13
  go_wp2
  go_ret
  exact ⟨rfl, rfl⟩
theorem freeS : Calls Try.prog 12 #[.pointer (some ⟨b, 0, none⟩)] w (Same ((Value.int .i64) (σ.s.frees.length : Nat)) w) := by
  obtain ⟨y, _, h⟩ := spaceAt_open h
  unfold spaceIn at h
  obtain ⟨c0, c1, c2, c3, c4, c5⟩ := h.cells6
  have cl := h.lt
  have HF := Lib.hid (freeA y.f σ.s R w (h.right.right.right.right.right))
  clear h
  go_enter Try.func12, Try.ntmps12
  go_wp2_with (refine HF.out.mono ?_; rintro e w2 ⟨rfl, rfl⟩)
  go_ret
  exact ⟨rfl, rfl⟩
end
section
variable (b : Nat) (σ : Sc) (hw : Wf σ.s 0 σ.gone (fun _ => False)) (R : HProp) (w : World) (h : Has w (spaceAt b σ * R))
include hw h
set_option maxHeartbeats 2000000 in
theorem listS : Calls Try.prog 11 #[.pointer (some ⟨b, 0, none⟩)] w fun e w' => ∃ A c, e = .returned (.slice A (allM σ.s 0).length c) ∧ Has w' (mrow (.slice A (allM σ.s 0).length c) (allM σ.s 0) * (spaceAt b σ * R)) ∧ Ext w w' := by
  obtain ⟨y, hy, h⟩ := spaceAt_open h
  unfold spaceIn at h
  have HL := Lib.hid (fun R w h => listW y.f σ.s σ.gone _ hw R w h)
  have HS := Lib.hid (fun (w' : World) (R' : HProp) (h : Has w' (spaceIn b σ y R')) => spaceAt_shut hy h)
  have cl := h.lt
  have hd := (h.eq (show _ = frA y.f σ.s * (blk b #[.pointer (some ⟨y.f, 0, none⟩), (Value.int .i64) 0, .slice y.A y.ps.length y.c, .pointer (some ⟨y.sh, 0, none⟩), Value.bool σ.busy, .slice y.G σ.gone.length y.d] 63 * (prow (.slice y.A y.ps.length y.c) y.ps * (irow (.slice y.G σ.gone.length y.d) σ.gone * (shootAt y.sh σ.told σ.wait * (coresAt y.ps σ.cs * R))))) by ac_rfl)).drew
  have xd := (Ext.refl w).drew
  have HK := Lib.hid (fun (w' : World) (P Q : HProp) (h : Has w' (P * (blk b #[.pointer (some ⟨y.f, 0, none⟩), (Value.int .i64) 0, .slice y.A y.ps.length y.c, .pointer (some ⟨y.sh, 0, none⟩), Value.bool σ.busy, .slice y.G σ.gone.length y.d] 63 * Q))) => (⟨h.right.cell 0, h.right.cell 1⟩ : w'.cell? ⟨b, 0, none⟩ = some (.pointer (some ⟨y.f, 0, none⟩)) ∧ w'.cell? ⟨b, 1, none⟩ = some ((Value.int .i64) 0)))
  clear hy h
  generalize allM σ.s 0 = L at *
  go_enter Try.func11, Try.ntmps11
  go_upto_region 1 with fail
  go_region_held3 (fun w' => w'.cell? ⟨b, 0, none⟩ = some (.pointer (some ⟨y.f, 0, none⟩)) ∧ w'.cell? ⟨b, 1, none⟩ = some ((Value.int .i64) 0)) (first | (with_reducible exact HK.out _ _ _ hd) | (with_reducible exact HK.out _ _ _ h5.a2) | go_keep) (first | (go_at_call 28; (with_reducible refine (HL.out _ _ hd).mono ?_); rintro e w5 ⟨A, c, rfl, h5, x5⟩))
  all_goals
    go_wp2_with fail
    go_ret
    exact ⟨A, c, rfl, (HS.out w5 (mrow (.slice A L.length c) L * R) (h5.eq (by unfold spaceIn; ac_rfl))).p2, xd.trans x5⟩
end
section
variable (b : Nat) (σ : Sc) (R : HProp) (w : World) (h : Has w (spaceAt b σ * R))
include h
set_option maxHeartbeats 2000000 in
theorem findS (p : Int) : Calls Try.prog 15 #[.pointer (some ⟨b, 0, none⟩), (Value.int .i64) p] w (Pure (.tuple #[(findM σ.s 0 p).val, enV (findE σ.s 0 p), (Value.int .i64) (findC σ.s 0 p)]) w) := by
  obtain ⟨y, hy, h⟩ := spaceAt_open h
  unfold spaceIn at h
  have h0 := ((has_old w).new #[(Value.int .i64) 0, (Value.int .i64) 0, (Value.int .i64) 0, (Value.int .i64) 0] 31).new #[Value.bool false, Value.bool false, (Value.int .i64) 0, Value.bool false, Value.bool false, (Value.int .i64) 0] 51
  have x0 := ((Ext.refl w).alloc (.cells #[(Value.int .i64) 0, (Value.int .i64) 0, (Value.int .i64) 0, (Value.int .i64) 0] 31)).alloc (.cells #[Value.bool false, Value.bool false, (Value.int .i64) 0, Value.bool false, Value.bool false, (Value.int .i64) 0] 51)
  have g0 := (h.alloc (.cells #[(Value.int .i64) 0, (Value.int .i64) 0, (Value.int .i64) 0, (Value.int .i64) 0] 31)).alloc (.cells #[Value.bool false, Value.bool false, (Value.int .i64) 0, Value.bool false, Value.bool false, (Value.int .i64) 0] 51)
  simp only [World.size_alloc] at h0
  have nb0 : b ≠ w.heap.size := by have := h.lt; omega
  have nb1 : b ≠ w.heap.size + 1 := by have := h.lt; omega
  have HL := Lib.hid (fun R w h => findA y.f σ.s R w h 0 p)
  have cl := h.lt
  unfold enV Mp.val at HL ⊢
  generalize findM σ.s 0 p = mp at *
  generalize findE σ.s 0 p = fe at *
  generalize findC σ.s 0 p = fc at *
  have hd := (g0.eq (show _ = frA y.f σ.s * (blk b #[.pointer (some ⟨y.f, 0, none⟩), (Value.int .i64) 0, .slice y.A y.ps.length y.c, .pointer (some ⟨y.sh, 0, none⟩), Value.bool σ.busy, .slice y.G σ.gone.length y.d] 63 * (prow (.slice y.A y.ps.length y.c) y.ps * (irow (.slice y.G σ.gone.length y.d) σ.gone * (shootAt y.sh σ.told σ.wait * (coresAt y.ps σ.cs * R))))) by ac_rfl)).drew
  have q0 := h.cell 0
  have q1 := h.cell 1
  have HKO := Lib.hid (fun (w' : World) (P Q : HProp) (h : Has w' (P * (Q * old w w.heap.size))) => (⟨(Has.swap h.right).oldCell' q0, (Has.swap h.right).oldCell' q1⟩ : w'.cell? ⟨b, 0, none⟩ = some (.pointer (some ⟨y.f, 0, none⟩)) ∧ w'.cell? ⟨b, 1, none⟩ = some ((Value.int .i64) 0)))
  clear hy h g0 q0 q1
  go_enter Try.func15, Try.ntmps15
  go_upto_region 1 with fail
  generalize (w.alloc (.cells #[(Value.int .i64) 0, (Value.int .i64) 0, (Value.int .i64) 0, (Value.int .i64) 0] 31)).alloc (.cells #[Value.bool false, Value.bool false, (Value.int .i64) 0, Value.bool false, Value.bool false, (Value.int .i64) 0] 51) = w1 at *
  have h0d := h0.drew
  go_region_held3 (fun w' => w'.cell? ⟨b, 0, none⟩ = some (.pointer (some ⟨y.f, 0, none⟩)) ∧ w'.cell? ⟨b, 1, none⟩ = some ((Value.int .i64) 0)) (first | (with_reducible exact HKO.out _ _ _ h0d) | (with_reducible exact HKO.out _ _ _ g5) | (with_reducible exact HKO.out _ _ _ g6) | (with_reducible exact HKO.out _ _ _ g7) | go_keep) (first | (go_at_call 32; (with_reducible refine (HL.out _ _ hd).mono ?_); rintro e w5 ⟨rfl, b5⟩; have g5 := h0d.below b5; have x5 := x0.drew.below b5; obtain ⟨e0, e1, e2, e3, e4, e5⟩ := g5.frees6; obtain ⟨m0, m1, m2, m3⟩ := g5.right.frees4; obtain ⟨k0, k1, k2, k3, k4, k5⟩ := g5.cells6; obtain ⟨q0, q1, q2, q3⟩ := g5.right.cells4; have kl := g5.lt; have ql := g5.right.lt; have g6 := g5.p2.set4 ((Value.int .i64) mp.page) ((Value.int .i64) mp.size) ((Value.int .i64) mp.frame) ((Value.int .i64) mp.rights); have g7 := g6.p2.set6 (Value.bool fe.there) (Value.bool fe.leaf) ((Value.int .i64) fe.rights) (Value.bool fe.used) (Value.bool fe.dirty) ((Value.int .i64) fe.frame)))
  all_goals
    go_wp2_with fail
    refine ret_via (fun wz => Has wz (blk (w.heap.size + 1) #[Value.bool fe.there, Value.bool fe.leaf, (Value.int .i64) fe.rights, Value.bool fe.used, Value.bool fe.dirty, (Value.int .i64) fe.frame] 51 * (blk w.heap.size #[(Value.int .i64) mp.page, (Value.int .i64) mp.size, (Value.int .i64) mp.frame, (Value.int .i64) mp.rights] 31 * old w w.heap.size)) ∧ Ext w wz) ⟨g7, by (repeat (first | with_reducible assumption | with_reducible exact Ext.refl _ | with_reducible refine Ext.set ?_ _ _ | with_reducible refine Ext.alloc ?_ _ | with_reducible refine Ext.drew ?_ | with_reducible refine Ext.drewN ?_ _ | assumption | exact Ext.refl _ | refine Ext.alloc ?_ _ | refine Ext.set ?_ _ _ | refine Ext.drew ?_ | refine Ext.drewN ?_ _ | refine Ext.below ?_ (by assumption) | refine Ext.trans ?_ (by assumption)))⟩ ?_
    rintro wz ⟨hz, xz⟩
    exact bodyPost_ret (results_cct Try.results15 rfl rfl rfl (load_map hz.right) (load_entry hz)) rfl ⟨rfl, below_of1 hz.right.right xz⟩
end
section
variable (b : Nat) (σ : Sc) (R : HProp) (w : World) (h : Has w (spaceAt b σ * R))
include h
set_option maxHeartbeats 2000000 in
theorem onS (k : Int) : Calls Try.prog 14 #[.pointer (some ⟨b, 0, none⟩), (Value.int .i64) k] w (Pure (.tuple #[.agg #[(Value.int .i64) (σ.acc k).page, (Value.int .i64) (σ.acc k).kind, Value.bool (σ.acc k).user], Value.bool (σ.on k)]) w) := by
  obtain ⟨y, hy, h⟩ := spaceAt_open h
  unfold spaceIn at h
  have h0 := (has_old w).new #[(Value.int .i64) 0, (Value.int .i64) 0, Value.bool false] 33
  have x0 := (Ext.refl w).alloc (.cells #[(Value.int .i64) 0, (Value.int .i64) 0, Value.bool false] 33)
  have g0 := h.alloc (.cells #[(Value.int .i64) 0, (Value.int .i64) 0, Value.bool false] 33)
  have cl : b < (w.alloc (.cells #[(Value.int .i64) 0, (Value.int .i64) 0, Value.bool false] 33)).heap.size := g0.lt
  obtain ⟨c0, c1, c2, c3, c4, c5⟩ := g0.cells6
  clear h
  by_cases hk : 0 ≤ k ∧ k < σ.cs.length
  case neg =>
    have hon : σ.on k = false := by
      unfold Sc.on
      by_cases h0 : 0 ≤ k
      · rw [decide_eq_false (show ¬ k < (σ.cs.length : Int) from fun hh => hk ⟨h0, hh⟩)]; simp
      · rw [decide_eq_false h0]; rfl
    have hac : σ.acc k = Ac.zero := by unfold Sc.acc; rw [hon]; rfl
    rw [hon, hac]
    clear hon hac g0
    rw [← hy] at hk
    clear hy
    obtain ⟨z0, z1, z2⟩ := h0.cells3
    obtain ⟨f0, f1, f2⟩ := h0.frees3
    have zl := h0.lt
    by_cases hk0 : k < 0
    · clear hk
      go_enter Try.func14, Try.ntmps14
      go_wp2_with fail
      refine ret_via (fun wz => Has wz (blk w.heap.size #[(Value.int .i64) 0, (Value.int .i64) 0, Value.bool false] 33 * (old w w.heap.size)) ∧ Ext w wz) ⟨by first | (with_reducible exact h0) | (with_reducible exact h0.set3 _ _ _), by (repeat (first | with_reducible assumption | with_reducible exact Ext.refl _ | with_reducible refine Ext.set ?_ _ _ | with_reducible refine Ext.alloc ?_ _ | with_reducible refine Ext.drew ?_ | with_reducible refine Ext.drewN ?_ _ | assumption | exact Ext.refl _ | refine Ext.alloc ?_ _ | refine Ext.set ?_ _ _ | refine Ext.drew ?_ | refine Ext.drewN ?_ _ | refine Ext.below ?_ (by assumption) | refine Ext.trans ?_ (by assumption)))⟩ ?_
      rintro wz ⟨hz, xz⟩
      exact bodyPost_ret (results_ct Try.results14 rfl rfl (load_access hz)) rfl ⟨rfl, below_of1 hz.right xz⟩
    · have hkl : (y.ps.length : Int) ≤ k := by omega
      clear hk
      go_enter Try.func14, Try.ntmps14
      go_wp2_with fail
      refine ret_via (fun wz => Has wz (blk w.heap.size #[(Value.int .i64) 0, (Value.int .i64) 0, Value.bool false] 33 * (old w w.heap.size)) ∧ Ext w wz) ⟨by first | (with_reducible exact h0) | (with_reducible exact h0.set3 _ _ _), by (repeat (first | with_reducible assumption | with_reducible exact Ext.refl _ | with_reducible refine Ext.set ?_ _ _ | with_reducible refine Ext.alloc ?_ _ | with_reducible refine Ext.drew ?_ | with_reducible refine Ext.drewN ?_ _ | assumption | exact Ext.refl _ | refine Ext.alloc ?_ _ | refine Ext.set ?_ _ _ | refine Ext.drew ?_ | refine Ext.drewN ?_ _ | refine Ext.below ?_ (by assumption) | refine Ext.trans ?_ (by assumption)))⟩ ?_
      rintro wz ⟨hz, xz⟩
      exact bodyPost_ret (results_ct Try.results14 rfl rfl (load_access hz)) rfl ⟨rfl, below_of1 hz.right xz⟩
  case pos =>
    obtain ⟨hk0, hkl⟩ := hk
    obtain ⟨k, rfl⟩ := Int.eq_ofNat_of_zero_le hk0
    have hkn : k < σ.cs.length := by omega
    have hkp : k < y.ps.length := by omega
    obtain ⟨Q, eQ, _⟩ := cores_at (List.getElem?_eq_getElem hkp) (Safe.at_core hkn)
    rw [eQ] at g0
    obtain ⟨bA, hA, lA, cA⟩ := prow_at g0.right (List.getElem?_eq_getElem hkp)
    have hon : σ.on k = (σ.core k).k.on := by
      unfold Sc.on
      rw [decide_eq_true hk0, decide_eq_true hkl]
      simp
    have hac : σ.acc k = if (σ.core k).k.on = true then (σ.core k).k.a else Ac.zero := by unfold Sc.acc; rw [hon]; simp
    have hcr := g0.right.right.right.right.a1
    have HB := Lib.hid (busyC y.ps[k] _ 0 _ _ _ hcr)
    have HA := Lib.hid (accessC y.ps[k] _ 0 _ _ _ hcr)
    rw [hon, hac]
    have hkl' : (k : Int) < y.ps.length := by omega
    have h0d := h0
    generalize y.ps[k] = p at *
    generalize (σ.core k).k = ck at *
    rw [hA] at c2
    clear hon hac g0 eQ hcr hy hkl hkn
    obtain ⟨z0, z1, z2⟩ := h0.cells3
    obtain ⟨f0, f1, f2⟩ := h0.frees3
    have zl := h0.lt
    cases hn : ck.on with
    | false =>
      rw [hn] at HB
      rw [if_neg (by simp)]
      clear hn
      go_enter Try.func14, Try.ntmps14
      go_wp2_with (refine HB.out.mono ?_; rintro e w2 ⟨rfl, rfl⟩)
      refine ret_via (fun wz => Has wz (blk w.heap.size #[(Value.int .i64) 0, (Value.int .i64) 0, Value.bool false] 33 * (old w w.heap.size)) ∧ Ext w wz) ⟨by first | (with_reducible exact h0) | (with_reducible exact h0.set3 _ _ _), by (repeat (first | with_reducible assumption | with_reducible exact Ext.refl _ | with_reducible refine Ext.set ?_ _ _ | with_reducible refine Ext.alloc ?_ _ | with_reducible refine Ext.drew ?_ | with_reducible refine Ext.drewN ?_ _ | assumption | exact Ext.refl _ | refine Ext.alloc ?_ _ | refine Ext.set ?_ _ _ | refine Ext.drew ?_ | refine Ext.drewN ?_ _ | refine Ext.below ?_ (by assumption) | refine Ext.trans ?_ (by assumption)))⟩ ?_
      rintro wz ⟨hz, xz⟩
      exact bodyPost_ret (results_ct Try.results14 rfl rfl (load_access hz)) rfl ⟨rfl, below_of1 hz.right xz⟩
    | true =>
      rw [hn] at HB
      rw [if_pos rfl]
      clear hn
      go_enter Try.func14, Try.ntmps14
      go_wp2_with (refine HB.out.mono ?_; rintro e w2 ⟨rfl, hwz⟩; subst hwz)
      refine HA.out.mono ?_; rintro e w2 ⟨rfl, b2⟩
      have g2 := h0.below b2
      have x2 := x0.below b2
      clear h0 x0 z0 z1 z2 f0 f1 f2 zl h0d c0 c1 c2 c3 c4 c5 cl cA lA
      obtain ⟨z0, z1, z2⟩ := g2.cells3
      obtain ⟨f0, f1, f2⟩ := g2.frees3
      have zl := g2.lt
      go_wp2_with fail
      refine ret_via (fun wz => Has wz (blk w.heap.size #[(Value.int .i64) ck.a.page, (Value.int .i64) ck.a.kind, Value.bool ck.a.user] 33 * (old w w.heap.size)) ∧ Ext w wz) ⟨g2.set3 _ _ _, by (repeat (first | with_reducible assumption | with_reducible exact Ext.refl _ | with_reducible refine Ext.set ?_ _ _ | with_reducible refine Ext.alloc ?_ _ | with_reducible refine Ext.drew ?_ | with_reducible refine Ext.drewN ?_ _ | assumption | exact Ext.refl _ | refine Ext.alloc ?_ _ | refine Ext.set ?_ _ _ | refine Ext.drew ?_ | refine Ext.drewN ?_ _ | refine Ext.below ?_ (by assumption) | refine Ext.trans ?_ (by assumption)))⟩ ?_
      rintro wz ⟨hz, xz⟩
      exact bodyPost_ret (results_ct Try.results14 rfl rfl (load_access hz)) rfl ⟨rfl, below_of1 hz.right xz⟩
end
end Go.Proofs.Ytmfheghbgihdmaa
namespace Go.Proofs.Ytmfheghbgihdmaa
open Go.RowKit
def keyAt (p : Int) (L : Nat) : Int := p / pow8 L * 4 + L
def addK (l : List Int) (k : Int) : List Int := if k ∈ l then l else l ++ [k]
/-- The keys of levels from 3 down, so many. -/
def keysDown (p : Int) : Nat → List Int → List Int
  | 0, l => l
  | n + 1, l => addK (keysDown p n l) (keyAt p (3 - n))
def seenM (l : List Int) (m : Mp) : List Int := keysDown m.page (3 - m.size).toNat l
def seenL (l : List Mp) : List Int := l.foldl seenM []
theorem addK_nodup {l : List Int} (h : l.Nodup) (k : Int) : (addK l k).Nodup := by
  unfold addK
  split
  · exact h
  · rename_i hk
    rw [List.nodup_append]
    exact ⟨h, by simp, fun a ha b hb => by simp at hb; rintro rfl; exact hk (hb ▸ ha)⟩
theorem addK_mem {l : List Int} {k x : Int} : x ∈ addK l k ↔ x ∈ l ∨ x = k := by
  unfold addK
  split
  · rename_i hk
    constructor
    · exact .inl
    · rintro (h | rfl)
      · exact h
      · exact hk
  · simp
theorem down_nodup {p : Int} {l : List Int} (h : l.Nodup) : ∀ n, (keysDown p n l).Nodup
  | 0 => h
  | n + 1 => addK_nodup (down_nodup h n) _
theorem down_mem {p x : Int} {l : List Int} : ∀ n, x ∈ keysDown p n l ↔ x ∈ l ∨ ∃ i, i < n ∧ x = keyAt p (3 - i)
  | 0 => by simp [keysDown]
  | n + 1 => by
    show x ∈ addK _ _ ↔ _
    rw [addK_mem, down_mem n]
    constructor
    · rintro ((h | ⟨i, hi, he⟩) | he)
      · exact .inl h
      · exact .inr ⟨i, by omega, he⟩
      · exact .inr ⟨n, by omega, he⟩
    · rintro (h | ⟨i, hi, he⟩)
      · exact .inl (.inl h)
      · by_cases hn : i = n
        · subst hn; exact .inr he
        · exact .inl (.inr ⟨i, by omega, he⟩)
theorem seenL_nodup (l : List Mp) : (seenL l).Nodup := by
  have : ∀ (l : List Mp) (s : List Int), s.Nodup → (l.foldl seenM s).Nodup := by
    intro l
    induction l with
    | nil => intro s h; exact h
    | cons m l ih => intro s h; exact ih _ (down_nodup h _)
  exact this l [] List.nodup_nil
theorem seenL_mem (l : List Mp) (x : Int) : x ∈ seenL l ↔ ∃ m ∈ l, ∃ i, i < (3 - m.size).toNat ∧ x = keyAt m.page (3 - i) := by
  have : ∀ (l : List Mp) (s : List Int), x ∈ l.foldl seenM s ↔ x ∈ s ∨ ∃ m ∈ l, ∃ i, i < (3 - m.size).toNat ∧ x = keyAt m.page (3 - i) := by
    intro l
    induction l with
    | nil => intro s; simp
    | cons m l ih =>
      intro s
      rw [List.foldl_cons, ih]
      unfold seenM
      rw [down_mem]
      constructor
      · rintro ((h | h) | ⟨m', hm, h⟩)
        · exact .inl h
        · exact .inr ⟨m, List.mem_cons_self .., h⟩
        · exact .inr ⟨m', List.mem_cons_of_mem _ hm, h⟩
      · rintro (h | ⟨m', hm, h⟩)
        · exact .inl (.inl h)
        · rcases List.mem_cons.1 hm with rfl | hm
          · exact .inl (.inr h)
          · exact .inr ⟨m', hm, h⟩
  have := this l []
  simpa [seenL] using this
theorem nodup_sub {α : Type} [BEq α] [LawfulBEq α] : ∀ (a b : List α), a.Nodup → (∀ x, x ∈ a → x ∈ b) → a.length ≤ b.length
  | [], _, _, _ => Nat.zero_le _
  | x :: a, b, nd, h => by
    rw [List.nodup_cons] at nd
    have hx := h x (List.mem_cons_self ..)
    have h1 := nodup_sub a (b.erase x) nd.2 (fun y hy => (List.mem_erase_of_ne (by rintro rfl; exact nd.1 hy)).2 (h y (List.mem_cons_of_mem _ hy)))
    rw [List.length_erase_of_mem hx] at h1
    have := List.length_pos_of_mem hx
    simp only [List.length_cons]
    omega
section
variable {s : Ms} {gone : List Int} {L : List Mp}
/-- A mapping and its leaf's place. -/
theorem map_at (hw : Wf s 0 gone (fun _ => False)) {q : Int} {m : Mp} (hq : InP q) (hm : mapAt s 0 q = some m) : ∃ (d : Nat) (t : Int), Ends s 0 q d t ∧ 1 ≤ d ∧ m.size = ((3 - d : Nat) : Int) ∧ m.page = q / pow8 (3 - d) * pow8 (3 - d) := by
  obtain ⟨d, t, he⟩ := hw.ends q hq
  rw [mapAt_ends hq he] at hm
  split at hm
  · rename_i hl
    injection hm with hm
    obtain ⟨h3, _, _⟩ := he.map hq hl
    have hef : entFault (eOf s q t (3 - d)) ((3 - d : Nat) : Int) = 0 := (enc_dec he.dec).1
    rw [leafMap_eq hq hef hl (span_pow h3)] at hm
    exact ⟨d, t, he, by omega, by rw [← hm], by rw [← hm]⟩
  · cases hm
theorem div_mul_up {q : Int} {a b : Nat} (h : a ≤ b) : q / pow8 a * pow8 a / pow8 b = q / pow8 b := by
  have e : (q / pow8 a * pow8 a) / pow8 a = q / pow8 a := Int.mul_ediv_cancel _ (by have := pow8_pos' a; omega)
  exact div_up h e
def tabOfKey (s : Ms) (k : Int) : Int := (tabD s 0 (k / 4 * pow8 (k % 4).toNat) (4 - (k % 4).toNat)).getD 0
theorem key_parts (p : Int) {l : Nat} (h : l < 4) : keyAt p l / 4 = p / pow8 l ∧ (keyAt p l % 4).toNat = l := by
  unfold keyAt
  generalize p / pow8 l = x
  omega
theorem key_tab (hw : Wf s 0 gone (fun _ => False)) (hL : Lk s 0 L) {k : Int} (hk : k ∈ seenL L) : ∃ (p : Int) (l : Nat), InP p ∧ 1 ≤ l ∧ l ≤ 3 ∧ k = keyAt p l ∧ tabD s 0 p (4 - l) = some (tabOfKey s k) := by
  obtain ⟨m, hm, i, hi, rfl⟩ := (seenL_mem L k).1 hk
  have hp := (hL.ok.chk m hm).inP
  obtain ⟨d, t, he, hd1, hsz, hpg⟩ := map_at hw hp (hL.mem hm)
  have hle := he.le
  have hi' : i < d := by omega
  obtain ⟨u, hu⟩ := tabD_some_mono he.tab (show i + 1 ≤ d by omega)
  refine ⟨m.page, 3 - i, hp, by omega, by omega, rfl, ?_⟩
  have e4 : 4 - (3 - i) = i + 1 := by omega
  rw [e4, hu]
  obtain ⟨k1, k2⟩ := key_parts m.page (show 3 - i < 4 by omega)
  unfold tabOfKey
  rw [k1, k2, e4]
  have h8 := pow8_pos' (3 - i)
  have hq : InP (m.page / pow8 (3 - i) * pow8 (3 - i)) := by
    have h1 := Int.ediv_mul_le m.page (show pow8 (3 - i) ≠ 0 by omega)
    have h2 : 0 ≤ m.page / pow8 (3 - i) * pow8 (3 - i) := Int.mul_nonneg (Int.ediv_nonneg hp.1 (by omega)) (by omega)
    exact ⟨h2, by have := hp.2; omega⟩
  have := tabD_prefix s 0 hq hp (i + 1) (by omega) (by rw [show 4 - (i + 1) = 3 - i by omega]; exact div_mul_up (Nat.le_refl _))
  rw [this, hu]
  rfl
/-- There are just as many tables as the mappings need. -/
theorem needed_tabs (hw : Wf s 0 gone (fun _ => False)) (hL : Lk s 0 L) : (allT s 0).length = (seenL L).length + 1 := by
  obtain ⟨_, _, nd, hm⟩ := list_link hw
  have h0 : ∀ t d p, InP p → d ≤ 3 → 1 ≤ d → tabD s 0 p d = some t → t ≠ 0 := by
    rintro t d p hp hd h1 ht rfl
    have := (hw.inj p p d 0 0 hp hp hd (by omega) ht rfl).1
    omega
  have hin : ∀ k k', k ∈ seenL L → k' ∈ seenL L → tabOfKey s k = tabOfKey s k' → k = k' := by
    intro k k' hk hk' he
    obtain ⟨p, l, hp, hl1, hl3, rfl, ht⟩ := key_tab hw hL hk
    obtain ⟨p', l', hp', hl1', hl3', rfl, ht'⟩ := key_tab hw hL hk'
    rw [he] at ht
    obtain ⟨e1, e2⟩ := hw.inj p p' (4 - l) (4 - l') _ hp hp' (by omega) (by omega) ht ht'
    have : l = l' := by omega
    subst this
    rw [show 4 - (4 - l) = l by omega] at e2
    unfold keyAt
    rw [e2]
  have hnd : (0 :: (seenL L).map (tabOfKey s)).Nodup := by
    rw [List.nodup_cons]
    constructor
    · intro h
      obtain ⟨k, hk, he⟩ := List.mem_map.1 h
      obtain ⟨p, l, hp, hl1, hl3, _, ht⟩ := key_tab hw hL hk
      exact h0 _ (4 - l) p hp (by omega) (by omega) ht he
    · have : ∀ l : List Int, l.Nodup → (∀ k ∈ l, k ∈ seenL L) → (l.map (tabOfKey s)).Nodup := by
        intro l
        induction l with
        | nil => intro _ _; exact List.nodup_nil
        | cons x l ih =>
          intro nd h
          rw [List.nodup_cons] at nd
          rw [List.map_cons, List.nodup_cons]
          refine ⟨fun hx => ?_, ih nd.2 fun k hk => h k (List.mem_cons_of_mem _ hk)⟩
          obtain ⟨y, hy, he⟩ := List.mem_map.1 hx
          have := hin y x (h y (List.mem_cons_of_mem _ hy)) (h x (List.mem_cons_self ..)) he
          exact nd.1 (this ▸ hy)
      exact this _ (seenL_nodup L) fun k hk => hk
  have hmem : ∀ t, t ∈ 0 :: (seenL L).map (tabOfKey s) ↔ t ∈ allT s 0 := by
    intro t
    rw [hm]
    constructor
    · intro h
      rcases List.mem_cons.1 h with rfl | h
      · exact ⟨0, 0, ⟨by omega, by omega⟩, by omega, rfl⟩
      · obtain ⟨k, hk, rfl⟩ := List.mem_map.1 h
        obtain ⟨p, l, hp, hl1, hl3, _, ht⟩ := key_tab hw hL hk
        exact ⟨p, 4 - l, hp, by omega, ht⟩
    · rintro ⟨p, d, hp, hd, ht⟩
      cases d with
      | zero => injection ht with ht; rw [← ht]; exact List.mem_cons_self ..
      | succ d =>
        obtain ⟨q, hq, hpre, hne⟩ := hw.some_map (2 - d) d (by omega) hp ht
        have hqt : tabD s 0 q (d + 1) = some t := by
          rw [← ht]
          exact tabD_prefix s 0 hq hp (d + 1) (by omega) (by rw [show 4 - (d + 1) = 3 - d by omega]; exact hpre)
        cases hmq : mapAt s 0 q with
        | none => exact absurd hmq hne
        | some m =>
          obtain ⟨e, u, he, he1, hsz, hpg⟩ := map_at hw hq hmq
          have hle := he.le
          have hde : d + 1 ≤ e := by
            rcases Nat.lt_or_ge e (d + 1) with h | h
            · have := tabD_none_mono (tabD_none he.tab he.no) (d + 1) h
              rw [hqt] at this; cases this
            · exact h
          have hmL : m ∈ L := by
            have := hL.same q hq
            rw [hmq] at this
            exact (Bk.find_mem this).1
          have hk : keyAt m.page (3 - d) ∈ seenL L := (seenL_mem L _).2 ⟨m, hmL, d, by omega, rfl⟩
          refine List.mem_cons_of_mem _ (List.mem_map.2 ⟨_, hk, ?_⟩)
          obtain ⟨p', l, hp', hl1, hl3, hke, ht'⟩ := key_tab hw hL hk
          obtain ⟨a1, a2⟩ := key_parts m.page (show 3 - d < 4 by omega)
          obtain ⟨b1, b2⟩ := key_parts p' (show l < 4 by omega)
          rw [hke] at a1 a2
          rw [b2] at a2
          subst a2
          have e4 : 4 - (3 - d) = d + 1 := by omega
          rw [e4] at ht'
          have hpp : p' / pow8 (3 - d) = q / pow8 (3 - d) := by
            rw [← b1, a1, hpg]
            exact div_mul_up (by omega)
          have := tabD_prefix s 0 hp' hq (d + 1) (by omega) (by rw [show 4 - (d + 1) = 3 - d by omega]; exact hpp)
          rw [this, hqt] at ht'
          injection ht' with ht'
          exact ht'.symm
  have h1 := nodup_sub _ _ hnd fun x hx => (hmem x).1 hx
  have h2 := nodup_sub _ _ nd fun x hx => (hmem x).2 hx
  simp only [List.length_cons, List.length_map] at h1 h2
  omega
end
end Go.Proofs.Ytmfheghbgihdmaa
