/- Contract of package space: change. -/
import Derived.Test.YtmfheghbgihdmaaSpcN
namespace Go.Proofs.Ytmfheghbgihdmaa
open Go.RowKit
set_option maxRecDepth 100000
set_option maxHeartbeats 4000000 in
theorem changeS (b : Nat) (σ : Sc) (x : Stp) (hok : σ.Ok) (hq : σ.busy = false → overB σ.wait = true) (R : HProp) (w : World) (h : Has w (spaceAt b σ * R)) :
    Calls Try.prog 21 #[.pointer (some ⟨b, 0, none⟩), .agg #[(Value.int .i64) x.kind, (Value.int .i64) x.core, (Value.int .i64) x.m.page, (Value.int .i64) x.m.size, (Value.int .i64) x.m.frame, (Value.int .i64) x.m.rights, (Value.int .i64) x.a.page, (Value.int .i64) x.a.kind, Value.bool x.a.user]] w (Res (σ.change x).2.val (spaceAt b (σ.change x).1 * R) w) := by
  obtain ⟨s, cs, td, wt, bz, gn⟩ := σ
  obtain ⟨y, hy, h⟩ := spaceAt_open h
  unfold spaceIn at h
  have h0 := (h.new #[(Value.int .i64) x.kind, (Value.int .i64) x.core, (Value.int .i64) x.m.page, (Value.int .i64) x.m.size, (Value.int .i64) x.m.frame, (Value.int .i64) x.m.rights, (Value.int .i64) x.a.page, (Value.int .i64) x.a.kind, Value.bool x.a.user] 35).new #[(Value.int .i64) 0, Value.bool false, (Value.int .i64) 0, (Value.int .i64) 0, (Value.int .i64) 0, Value.bool false] 39
  have x0 := ((Ext.refl w).alloc (.cells #[(Value.int .i64) x.kind, (Value.int .i64) x.core, (Value.int .i64) x.m.page, (Value.int .i64) x.m.size, (Value.int .i64) x.m.frame, (Value.int .i64) x.m.rights, (Value.int .i64) x.a.page, (Value.int .i64) x.a.kind, Value.bool x.a.user] 35)).alloc (.cells #[(Value.int .i64) 0, Value.bool false, (Value.int .i64) 0, (Value.int .i64) 0, (Value.int .i64) 0, Value.bool false] 39)
  simp only [World.size_alloc] at h0
  have HBG := Lib.hid (fun s' (G : Option Addr) (gn' gd : Nat) (g : List Int) (m : Mp) (hov : overB wt = true) R w h => begunS b ⟨s', cs, td, wt, bz, gn⟩ y m g G gn' gd hy hok.one hok.few hov R w h)
  have HS := Lib.hid (fun (s' : Ms) (w' : World) (R' : HProp) (h : Has w' (spaceIn b ⟨s', cs, td, wt, bz, gn⟩ y R')) => spaceAt_shut (σ := ⟨s', cs, td, wt, bz, gn⟩) hy h)
  unfold spaceIn at HS HBG
  dsimp only at *
  have h1 : Has _ (blk (w.heap.size + 1) #[(Value.int .i64) 0, Value.bool false, (Value.int .i64) 0, (Value.int .i64) 0, (Value.int .i64) 0, Value.bool false] 39 * (blk b #[.pointer (some ⟨y.f, 0, none⟩), (Value.int .i64) 0, .slice y.A y.ps.length y.c, .pointer (some ⟨y.sh, 0, none⟩), Value.bool bz, (.slice y.G gn.length y.d)] 63 * ((prow (.slice y.A y.ps.length y.c) y.ps * (irow (.slice y.G gn.length y.d) gn * (shootAt y.sh td wt * coresAt y.ps cs))) * (frA y.f s * (blk w.heap.size #[(Value.int .i64) x.kind, (Value.int .i64) x.core, (Value.int .i64) x.m.page, (Value.int .i64) x.m.size, (Value.int .i64) x.m.frame, (Value.int .i64) x.m.rights, (Value.int .i64) x.a.page, (Value.int .i64) x.a.kind, Value.bool x.a.user] 35 * R))))) := h0.eq (by ac_rfl)
  clear h h0 hok hy
  obtain ⟨c0, c1, c2, c3, c4, c5⟩ := h1.right.cells6
  have cl := h1.right.lt
  have xc := h1.right.right.right.right.cell 0
  have xl := h1.right.right.right.right.lt
  cases bz with
  | true =>
    have e : Sc.change ⟨s, cs, td, wt, true, gn⟩ x = (⟨s, cs, td, wt, true, gn⟩, .no 8) := by unfold Sc.change; rw [if_pos rfl]
    rw [e]
    have HS1 := Lib.hid (HS.out s)
    clear e hq HBG HS
    go_enter Try.func21, Try.ntmps21
    go_upto_region 2 with fail
    clear c0 c1 c2 c3 c4 c5 cl xc xl
    generalize (w.alloc (.cells #[(Value.int .i64) x.kind, (Value.int .i64) x.core, (Value.int .i64) x.m.page, (Value.int .i64) x.m.size, (Value.int .i64) x.m.frame, (Value.int .i64) x.m.rights, (Value.int .i64) x.a.page, (Value.int .i64) x.a.kind, Value.bool x.a.user] 35)).alloc (.cells #[(Value.int .i64) 0, Value.bool false, (Value.int .i64) 0, (Value.int .i64) 0, (Value.int .i64) 0, Value.bool false] 39) = w1 at *
    generalize w.heap.size = X at *
    generalize X + 1 = E at *
    go_wp2_with fail
    refine (refusedS 8 _).mono ?_; rintro e w7 ⟨rfl, b7⟩
    have h7 := h1.below b7
    have x7 := x0.below b7
    clear h1 x0 b7
    obtain ⟨e0, e1, e2, e3, e4, e5⟩ := h7.cells6
    obtain ⟨f0, f1, f2, f3, f4, f5⟩ := h7.frees6
    have el := h7.lt
    go_wp2_with fail
    refine ret_via (fun wz => Has wz (blk E #[(Value.int .i64) 8, Value.bool false, (Value.int .i64) 0, (Value.int .i64) 0, (Value.int .i64) 0, Value.bool false] 39 * (blk b #[.pointer (some ⟨y.f, 0, none⟩), (Value.int .i64) 0, .slice y.A y.ps.length y.c, .pointer (some ⟨y.sh, 0, none⟩), Value.bool true, .slice y.G gn.length y.d] 63 * ((prow (.slice y.A y.ps.length y.c) y.ps * (irow (.slice y.G gn.length y.d) gn * (shootAt y.sh td wt * coresAt y.ps cs))) * (frA y.f s * (blk X #[(Value.int .i64) x.kind, (Value.int .i64) x.core, (Value.int .i64) x.m.page, (Value.int .i64) x.m.size, (Value.int .i64) x.m.frame, (Value.int .i64) x.m.rights, (Value.int .i64) x.a.page, (Value.int .i64) x.a.kind, Value.bool x.a.user] 35 * R))))) ∧ Ext w wz) ⟨h7.set6 _ _ _ _ _ _, by (repeat (first | with_reducible assumption | with_reducible exact Ext.refl _ | with_reducible refine Ext.set ?_ _ _ | with_reducible refine Ext.alloc ?_ _ | with_reducible refine Ext.drew ?_ | with_reducible refine Ext.drewN ?_ _ | assumption | exact Ext.refl _ | refine Ext.alloc ?_ _ | refine Ext.set ?_ _ _ | refine Ext.drew ?_ | refine Ext.drewN ?_ _ | refine Ext.below ?_ (by assumption) | refine Ext.trans ?_ (by assumption)))⟩ ?_
    rintro wz ⟨hz, xz⟩
    exact bodyPost_ret (results_c Try.results21 rfl (load_event hz)) rfl ⟨rfl, HS1.out _ (blk X #[(Value.int .i64) x.kind, (Value.int .i64) x.core, (Value.int .i64) x.m.page, (Value.int .i64) x.m.size, (Value.int .i64) x.m.frame, (Value.int .i64) x.m.rights, (Value.int .i64) x.a.page, (Value.int .i64) x.a.kind, Value.bool x.a.user] 35 * R) (hz.right.eq (by ac_rfl)) |>.p2.right, xz⟩
  | false =>
    have HBG2 := Lib.hid (fun s' (G : Option Addr) (gn gd : Nat) (g : List Int) (m : Mp) R w h => HBG.out s' G gn gd g m (hq rfl) R w h)
    clear HBG hq
    by_cases o1 : x.kind = 1
    · have e : Sc.change ⟨s, cs, td, wt, false, gn⟩ x = (⟨insS s 0 x.m, cs, td, wt, false, gn⟩, ⟨insC s 0 x.m, false, An.zero, decide (insC s 0 x.m = 0)⟩) := by unfold Sc.change; rw [if_neg (by simp), if_pos o1]
      rw [e]
      have HS1 := Lib.hid (HS.out (insS s 0 x.m))
      have HI := Lib.hid (fun R w h => insA y.f s R w h 0 x.m)
      clear e HBG2 HS
      generalize insC s 0 x.m = cd at *
      generalize insS s 0 x.m = sA at *
      generalize x.kind = op at *
      subst o1
      go_enter Try.func21, Try.ntmps21
      go_upto_region 5 with fail
      clear c0 c1 c2 c3 c4 c5 cl xc xl
      generalize (w.alloc (.cells #[(Value.int .i64) 1, (Value.int .i64) x.core, (Value.int .i64) x.m.page, (Value.int .i64) x.m.size, (Value.int .i64) x.m.frame, (Value.int .i64) x.m.rights, (Value.int .i64) x.a.page, (Value.int .i64) x.a.kind, Value.bool x.a.user] 35)).alloc (.cells #[(Value.int .i64) 0, Value.bool false, (Value.int .i64) 0, (Value.int .i64) 0, (Value.int .i64) 0, Value.bool false] 39) = w1 at *
      generalize w.heap.size = X at *
      generalize X + 1 = E at *
      have h2 : Has w1 (frA y.f s * (blk b #[.pointer (some ⟨y.f, 0, none⟩), (Value.int .i64) 0, .slice y.A y.ps.length y.c, .pointer (some ⟨y.sh, 0, none⟩), Value.bool false, (.slice y.G gn.length y.d)] 63 * (blk X #[(Value.int .i64) 1, (Value.int .i64) x.core, (Value.int .i64) x.m.page, (Value.int .i64) x.m.size, (Value.int .i64) x.m.frame, (Value.int .i64) x.m.rights, (Value.int .i64) x.a.page, (Value.int .i64) x.a.kind, Value.bool x.a.user] 35 * ((prow (.slice y.A y.ps.length y.c) y.ps * (irow (.slice y.G gn.length y.d) gn * (shootAt y.sh td wt * coresAt y.ps cs))) * (blk E #[(Value.int .i64) 0, Value.bool false, (Value.int .i64) 0, (Value.int .i64) 0, (Value.int .i64) 0, Value.bool false] 39 * R))))) := h1.eq (by ac_rfl)
      have HK := Lib.hid (fun (w' : World) (P Q : HProp) (h : Has w' (P * (blk b #[.pointer (some ⟨y.f, 0, none⟩), (Value.int .i64) 0, .slice y.A y.ps.length y.c, .pointer (some ⟨y.sh, 0, none⟩), Value.bool false, (.slice y.G gn.length y.d)] 63 * (blk X #[(Value.int .i64) 1, (Value.int .i64) x.core, (Value.int .i64) x.m.page, (Value.int .i64) x.m.size, (Value.int .i64) x.m.frame, (Value.int .i64) x.m.rights, (Value.int .i64) x.a.page, (Value.int .i64) x.a.kind, Value.bool x.a.user] 35 * Q)))) => (⟨h.right.cell 0, h.right.cell 1, h.right.right.cell 2, h.right.right.cell 3, h.right.right.cell 4, h.right.right.cell 5⟩ : w'.cell? ⟨b, 0, none⟩ = some (.pointer (some ⟨y.f, 0, none⟩)) ∧ w'.cell? ⟨b, 1, none⟩ = some ((Value.int .i64) 0) ∧ w'.cell? ⟨X, 2, none⟩ = some ((Value.int .i64) x.m.page) ∧ w'.cell? ⟨X, 3, none⟩ = some ((Value.int .i64) x.m.size) ∧ w'.cell? ⟨X, 4, none⟩ = some ((Value.int .i64) x.m.frame) ∧ w'.cell? ⟨X, 5, none⟩ = some ((Value.int .i64) x.m.rights)))
      have cl := h2.right.lt
      have xl := h2.right.right.lt
      have hd := h2.drew
      have xd := x0.drew
      have hz := h2
      have xz := x0
      clear h1 h2 x0
      go_region_held3 (fun w' => w'.cell? ⟨b, 0, none⟩ = some (.pointer (some ⟨y.f, 0, none⟩)) ∧ w'.cell? ⟨b, 1, none⟩ = some ((Value.int .i64) 0) ∧ w'.cell? ⟨X, 2, none⟩ = some ((Value.int .i64) x.m.page) ∧ w'.cell? ⟨X, 3, none⟩ = some ((Value.int .i64) x.m.size) ∧ w'.cell? ⟨X, 4, none⟩ = some ((Value.int .i64) x.m.frame) ∧ w'.cell? ⟨X, 5, none⟩ = some ((Value.int .i64) x.m.rights)) (first | (with_reducible exact HK.out _ _ _ hd) | (with_reducible exact HK.out _ _ _ h5) | go_keep) (first | (go_at_call 36; (with_reducible refine (HI.out _ _ hd).mono ?_); rintro e w5 ⟨rfl, h5, x5⟩))
      all_goals
        have h6 : Has w5 (blk E #[(Value.int .i64) 0, Value.bool false, (Value.int .i64) 0, (Value.int .i64) 0, (Value.int .i64) 0, Value.bool false] 39 * (blk b #[.pointer (some ⟨y.f, 0, none⟩), (Value.int .i64) 0, .slice y.A y.ps.length y.c, .pointer (some ⟨y.sh, 0, none⟩), Value.bool false, (.slice y.G gn.length y.d)] 63 * ((prow (.slice y.A y.ps.length y.c) y.ps * (irow (.slice y.G gn.length y.d) gn * (shootAt y.sh td wt * coresAt y.ps cs))) * (frA y.f sA * (blk X #[(Value.int .i64) 1, (Value.int .i64) x.core, (Value.int .i64) x.m.page, (Value.int .i64) x.m.size, (Value.int .i64) x.m.frame, (Value.int .i64) x.m.rights, (Value.int .i64) x.a.page, (Value.int .i64) x.a.kind, Value.bool x.a.user] 35 * R))))) := h5.eq (by ac_rfl)
        have x6 := xd.trans x5
        clear hd xd h5 x5 HI HK cl xl
        by_cases hcd : cd = 0
        · subst hcd
          obtain ⟨e0, e1, e2, e3, e4, e5⟩ := h6.cells6
          obtain ⟨f0, f1, f2, f3, f4, f5⟩ := h6.frees6
          have el := h6.lt
          go_wp2_with fail
          refine ret_via (fun wz => Has wz (blk E #[(Value.int .i64) 0, Value.bool false, (Value.int .i64) 0, (Value.int .i64) 0, (Value.int .i64) 0, Value.bool true] 39 * (blk b #[.pointer (some ⟨y.f, 0, none⟩), (Value.int .i64) 0, .slice y.A y.ps.length y.c, .pointer (some ⟨y.sh, 0, none⟩), Value.bool false, (.slice y.G gn.length y.d)] 63 * ((prow (.slice y.A y.ps.length y.c) y.ps * (irow (.slice y.G gn.length y.d) gn * (shootAt y.sh td wt * coresAt y.ps cs))) * (frA y.f sA * (blk X #[(Value.int .i64) 1, (Value.int .i64) x.core, (Value.int .i64) x.m.page, (Value.int .i64) x.m.size, (Value.int .i64) x.m.frame, (Value.int .i64) x.m.rights, (Value.int .i64) x.a.page, (Value.int .i64) x.a.kind, Value.bool x.a.user] 35 * R))))) ∧ Ext w wz) ⟨h6.set6 _ _ _ _ _ _, by (repeat (first | with_reducible assumption | with_reducible exact Ext.refl _ | with_reducible refine Ext.set ?_ _ _ | with_reducible refine Ext.alloc ?_ _ | with_reducible refine Ext.drew ?_ | with_reducible refine Ext.drewN ?_ _ | assumption | exact Ext.refl _ | refine Ext.alloc ?_ _ | refine Ext.set ?_ _ _ | refine Ext.drew ?_ | refine Ext.drewN ?_ _ | refine Ext.below ?_ (by assumption) | refine Ext.trans ?_ (by assumption)))⟩ ?_
          rintro wz ⟨hz, xz⟩
          exact bodyPost_ret (results_c Try.results21 rfl (load_event hz)) rfl ⟨rfl, HS1.out _ (blk X #[(Value.int .i64) 1, (Value.int .i64) x.core, (Value.int .i64) x.m.page, (Value.int .i64) x.m.size, (Value.int .i64) x.m.frame, (Value.int .i64) x.m.rights, (Value.int .i64) x.a.page, (Value.int .i64) x.a.kind, Value.bool x.a.user] 35 * R) (hz.right.eq (by ac_rfl)) |>.p2.right, xz⟩
        · have hcd' : (cd != 0) = true := by simpa using hcd
          have HEV := Lib.hid (show Ev.val ⟨cd, false, An.zero, decide (cd = 0)⟩ = .agg #[(Value.int .i64) cd, Value.bool false, (Value.int .i64) 0, (Value.int .i64) 0, (Value.int .i64) 0, Value.bool false] by rw [decide_eq_false hcd]; rfl)
          clear hcd
          go_wp2_with fail
          refine (refusedS cd _).mono ?_; rintro e w7 ⟨rfl, b7⟩
          have h7 := h6.below b7
          have x7 := x6.below b7
          clear h6 x6 b7
          obtain ⟨e0, e1, e2, e3, e4, e5⟩ := h7.cells6
          obtain ⟨f0, f1, f2, f3, f4, f5⟩ := h7.frees6
          have el := h7.lt
          go_wp2_with fail
          refine ret_via (fun wz => Has wz (blk E #[(Value.int .i64) cd, Value.bool false, (Value.int .i64) 0, (Value.int .i64) 0, (Value.int .i64) 0, Value.bool false] 39 * (blk b #[.pointer (some ⟨y.f, 0, none⟩), (Value.int .i64) 0, .slice y.A y.ps.length y.c, .pointer (some ⟨y.sh, 0, none⟩), Value.bool false, (.slice y.G gn.length y.d)] 63 * ((prow (.slice y.A y.ps.length y.c) y.ps * (irow (.slice y.G gn.length y.d) gn * (shootAt y.sh td wt * coresAt y.ps cs))) * (frA y.f sA * (blk X #[(Value.int .i64) 1, (Value.int .i64) x.core, (Value.int .i64) x.m.page, (Value.int .i64) x.m.size, (Value.int .i64) x.m.frame, (Value.int .i64) x.m.rights, (Value.int .i64) x.a.page, (Value.int .i64) x.a.kind, Value.bool x.a.user] 35 * R))))) ∧ Ext w wz) ⟨h7.set6 _ _ _ _ _ _, by (repeat (first | with_reducible assumption | with_reducible exact Ext.refl _ | with_reducible refine Ext.set ?_ _ _ | with_reducible refine Ext.alloc ?_ _ | with_reducible refine Ext.drew ?_ | with_reducible refine Ext.drewN ?_ _ | assumption | exact Ext.refl _ | refine Ext.alloc ?_ _ | refine Ext.set ?_ _ _ | refine Ext.drew ?_ | refine Ext.drewN ?_ _ | refine Ext.below ?_ (by assumption) | refine Ext.trans ?_ (by assumption)))⟩ ?_
          rintro wz ⟨hz, xz⟩
          exact bodyPost_ret (results_c Try.results21 rfl (load_event hz)) rfl ⟨by rw [HEV.out], HS1.out _ (blk X #[(Value.int .i64) 1, (Value.int .i64) x.core, (Value.int .i64) x.m.page, (Value.int .i64) x.m.size, (Value.int .i64) x.m.frame, (Value.int .i64) x.m.rights, (Value.int .i64) x.a.page, (Value.int .i64) x.a.kind, Value.bool x.a.user] 35 * R) (hz.right.eq (by ac_rfl)) |>.p2.right, xz⟩
    by_cases o2 : x.kind = 2
    · skip
      have HR := Lib.hid (fun R w h => remA y.f s R w h 0 x.m.page)
      unfold RemovedA Mp.val at HR
      by_cases hcd : findC s 0 x.m.page = 0
      · have e : Sc.change ⟨s, cs, td, wt, false, gn⟩ x = (Sc.post ⟨s, cs, td, wt, false, gn⟩ (remS s 0 x.m.page) (findM s 0 x.m.page) (remG s 0 x.m.page), .no 0) := by unfold Sc.change; rw [if_neg (by simp), if_neg o1, if_pos o2, if_pos hcd]
        rw [e]
        rw [hcd] at HR
        have HBG1 := Lib.hid (fun G gn gd g m R w h => HBG2.out (remS s 0 x.m.page) G gn gd g m R w h)
        clear e HBG2 HS hcd o1
        generalize findM s 0 x.m.page = mp at *
        generalize remG s 0 x.m.page = g at *
        generalize remS s 0 x.m.page = sA at *
        generalize x.kind = op at *
        subst o2
        go_enter Try.func21, Try.ntmps21
        go_upto_region 10 with fail
        clear c0 c1 c2 c3 c4 c5 cl xc xl
        generalize (w.alloc (.cells #[(Value.int .i64) 2, (Value.int .i64) x.core, (Value.int .i64) x.m.page, (Value.int .i64) x.m.size, (Value.int .i64) x.m.frame, (Value.int .i64) x.m.rights, (Value.int .i64) x.a.page, (Value.int .i64) x.a.kind, Value.bool x.a.user] 35)).alloc (.cells #[(Value.int .i64) 0, Value.bool false, (Value.int .i64) 0, (Value.int .i64) 0, (Value.int .i64) 0, Value.bool false] 39) = w1 at *
        generalize w.heap.size = X at *
        generalize X + 1 = E at *
        have h2 : Has w1 (frA y.f s * (blk b #[.pointer (some ⟨y.f, 0, none⟩), (Value.int .i64) 0, .slice y.A y.ps.length y.c, .pointer (some ⟨y.sh, 0, none⟩), Value.bool false, (.slice y.G gn.length y.d)] 63 * (blk X #[(Value.int .i64) 2, (Value.int .i64) x.core, (Value.int .i64) x.m.page, (Value.int .i64) x.m.size, (Value.int .i64) x.m.frame, (Value.int .i64) x.m.rights, (Value.int .i64) x.a.page, (Value.int .i64) x.a.kind, Value.bool x.a.user] 35 * ((prow (.slice y.A y.ps.length y.c) y.ps * (irow (.slice y.G gn.length y.d) gn * (shootAt y.sh td wt * coresAt y.ps cs))) * (blk E #[(Value.int .i64) 0, Value.bool false, (Value.int .i64) 0, (Value.int .i64) 0, (Value.int .i64) 0, Value.bool false] 39 * R))))) := h1.eq (by ac_rfl)
        have HK := Lib.hid (fun (w' : World) (P Q : HProp) (h : Has w' (P * (blk b #[.pointer (some ⟨y.f, 0, none⟩), (Value.int .i64) 0, .slice y.A y.ps.length y.c, .pointer (some ⟨y.sh, 0, none⟩), Value.bool false, (.slice y.G gn.length y.d)] 63 * (blk X #[(Value.int .i64) 2, (Value.int .i64) x.core, (Value.int .i64) x.m.page, (Value.int .i64) x.m.size, (Value.int .i64) x.m.frame, (Value.int .i64) x.m.rights, (Value.int .i64) x.a.page, (Value.int .i64) x.a.kind, Value.bool x.a.user] 35 * Q)))) => (⟨h.right.cell 0, h.right.cell 1, h.right.right.cell 2, h.right.right.cell 3, h.right.right.cell 4, h.right.right.cell 5⟩ : w'.cell? ⟨b, 0, none⟩ = some (.pointer (some ⟨y.f, 0, none⟩)) ∧ w'.cell? ⟨b, 1, none⟩ = some ((Value.int .i64) 0) ∧ w'.cell? ⟨X, 2, none⟩ = some ((Value.int .i64) x.m.page) ∧ w'.cell? ⟨X, 3, none⟩ = some ((Value.int .i64) x.m.size) ∧ w'.cell? ⟨X, 4, none⟩ = some ((Value.int .i64) x.m.frame) ∧ w'.cell? ⟨X, 5, none⟩ = some ((Value.int .i64) x.m.rights)))
        have cl := h2.right.lt
        have xl := h2.right.right.lt
        have hd := h2.drew
        have xd := x0.drew
        have hz := h2
        have xz := x0
        clear h1 h2 x0
        go_cut [6, 7, 8] (fun s6 s7 s8 wx => ∃ (M : Nat) (G : Option Addr) (gn' gd : Nat), s6 = .pointer (some ⟨M, 0, none⟩) ∧ s7 = .slice G gn' gd ∧ s8 = (Value.int .i64) 0 ∧ Has wx (blk M #[(Value.int .i64) mp.page, (Value.int .i64) mp.size, (Value.int .i64) mp.frame, (Value.int .i64) mp.rights] 31 * ((irow (.slice G gn' gd) g * frA y.f sA) * (blk b #[.pointer (some ⟨y.f, 0, none⟩), (Value.int .i64) 0, .slice y.A y.ps.length y.c, .pointer (some ⟨y.sh, 0, none⟩), Value.bool false, (.slice y.G gn.length y.d)] 63 * (blk X #[(Value.int .i64) 2, (Value.int .i64) x.core, (Value.int .i64) x.m.page, (Value.int .i64) x.m.size, (Value.int .i64) x.m.frame, (Value.int .i64) x.m.rights, (Value.int .i64) x.a.page, (Value.int .i64) x.a.kind, Value.bool x.a.user] 35 * ((prow (.slice y.A y.ps.length y.c) y.ps * (irow (.slice y.G gn.length y.d) gn * (shootAt y.sh td wt * coresAt y.ps cs))) * (blk E #[(Value.int .i64) 0, Value.bool false, (Value.int .i64) 0, (Value.int .i64) 0, (Value.int .i64) 0, Value.bool false] 39 * R)))))) ∧ Ext w wx)
        case first =>
          have zd : Has (w1.alloc (.cells #[(Value.int .i64) 0, (Value.int .i64) 0, (Value.int .i64) 0, (Value.int .i64) 0] 31)).drew (frA y.f s * (blk b #[.pointer (some ⟨y.f, 0, none⟩), (Value.int .i64) 0, .slice y.A y.ps.length y.c, .pointer (some ⟨y.sh, 0, none⟩), Value.bool false, (.slice y.G gn.length y.d)] 63 * (blk X #[(Value.int .i64) 2, (Value.int .i64) x.core, (Value.int .i64) x.m.page, (Value.int .i64) x.m.size, (Value.int .i64) x.m.frame, (Value.int .i64) x.m.rights, (Value.int .i64) x.a.page, (Value.int .i64) x.a.kind, Value.bool x.a.user] 35 * ((prow (.slice y.A y.ps.length y.c) y.ps * (irow (.slice y.G gn.length y.d) gn * (shootAt y.sh td wt * coresAt y.ps cs))) * (blk E #[(Value.int .i64) 0, Value.bool false, (Value.int .i64) 0, (Value.int .i64) 0, (Value.int .i64) 0, Value.bool false] 39 * (blk w1.heap.size #[(Value.int .i64) 0, (Value.int .i64) 0, (Value.int .i64) 0, (Value.int .i64) 0] 31 * R)))))) := (hz.new #[(Value.int .i64) 0, (Value.int .i64) 0, (Value.int .i64) 0, (Value.int .i64) 0] 31).drew.eq (by ac_rfl)
          have yd := (xz.alloc (.cells #[(Value.int .i64) 0, (Value.int .i64) 0, (Value.int .i64) 0, (Value.int .i64) 0] 31)).drew
          go_region_held3 (fun w' => w'.cell? ⟨b, 0, none⟩ = some (.pointer (some ⟨y.f, 0, none⟩)) ∧ w'.cell? ⟨b, 1, none⟩ = some ((Value.int .i64) 0) ∧ w'.cell? ⟨X, 2, none⟩ = some ((Value.int .i64) x.m.page) ∧ w'.cell? ⟨X, 3, none⟩ = some ((Value.int .i64) x.m.size) ∧ w'.cell? ⟨X, 4, none⟩ = some ((Value.int .i64) x.m.frame) ∧ w'.cell? ⟨X, 5, none⟩ = some ((Value.int .i64) x.m.rights)) (first | (with_reducible exact HK.out _ _ _ hd) | (with_reducible exact HK.out _ _ _ zd) | (with_reducible exact HK.out _ _ _ hL) | (with_reducible exact HK.out _ _ _ (hL.alloc _)) | (with_reducible exact HK.out _ _ _ gL) | (with_reducible exact HK.out _ _ _ gL.right) | (with_reducible exact HK.out _ _ _ (gL.set4 _ _ _ _).right) | go_keep) (first | (go_at_call 37; first | ((with_reducible refine (HR.out _ _ hd).mono ?_); rintro e w5 ⟨G, gn', gd, rfl, h5, x5⟩; have hL : Has w5 ((irow (.slice G gn' gd) g * frA y.f sA) * (blk b #[.pointer (some ⟨y.f, 0, none⟩), (Value.int .i64) 0, .slice y.A y.ps.length y.c, .pointer (some ⟨y.sh, 0, none⟩), Value.bool false, (.slice y.G gn.length y.d)] 63 * (blk X #[(Value.int .i64) 2, (Value.int .i64) x.core, (Value.int .i64) x.m.page, (Value.int .i64) x.m.size, (Value.int .i64) x.m.frame, (Value.int .i64) x.m.rights, (Value.int .i64) x.a.page, (Value.int .i64) x.a.kind, Value.bool x.a.user] 35 * ((prow (.slice y.A y.ps.length y.c) y.ps * (irow (.slice y.G gn.length y.d) gn * (shootAt y.sh td wt * coresAt y.ps cs))) * (blk E #[(Value.int .i64) 0, Value.bool false, (Value.int .i64) 0, (Value.int .i64) 0, (Value.int .i64) 0, Value.bool false] 39 * R))))) := h5.eq (by ac_rfl); have xL := xd.trans x5) | ((with_reducible refine (HR.out _ _ zd).mono ?_); rintro e w5 ⟨G, gn', gd, rfl, g5, y5⟩; have gL : Has w5 (blk w1.heap.size #[(Value.int .i64) 0, (Value.int .i64) 0, (Value.int .i64) 0, (Value.int .i64) 0] 31 * ((irow (.slice G gn' gd) g * frA y.f sA) * (blk b #[.pointer (some ⟨y.f, 0, none⟩), (Value.int .i64) 0, .slice y.A y.ps.length y.c, .pointer (some ⟨y.sh, 0, none⟩), Value.bool false, (.slice y.G gn.length y.d)] 63 * (blk X #[(Value.int .i64) 2, (Value.int .i64) x.core, (Value.int .i64) x.m.page, (Value.int .i64) x.m.size, (Value.int .i64) x.m.frame, (Value.int .i64) x.m.rights, (Value.int .i64) x.a.page, (Value.int .i64) x.a.kind, Value.bool x.a.user] 35 * ((prow (.slice y.A y.ps.length y.c) y.ps * (irow (.slice y.G gn.length y.d) gn * (shootAt y.sh td wt * coresAt y.ps cs))) * (blk E #[(Value.int .i64) 0, Value.bool false, (Value.int .i64) 0, (Value.int .i64) 0, (Value.int .i64) 0, Value.bool false] 39 * R)))))) := g5.eq (by ac_rfl); have yL := yd.trans y5; obtain ⟨z0, z1, z2, z3⟩ := gL.cells4; obtain ⟨y0, y1, y2, y3⟩ := gL.frees4; have zl := gL.lt)))
          all_goals
            go_wp2_with fail
            go_meet
            case rel => first | exact ⟨_, G, gn', gd, rfl, rfl, rfl, hL.new #[(Value.int .i64) mp.page, (Value.int .i64) mp.size, (Value.int .i64) mp.frame, (Value.int .i64) mp.rights] 31, xL.alloc _⟩ | exact ⟨_, G, gn', gd, rfl, rfl, rfl, gL.set4 _ _ _ _, (((yL.set _ _).set _ _).set _ _).set _ _⟩
        case rest =>
          clear hd xd hz xz HK cl xl HR
          obtain ⟨M, G, gn', gd, rfl, rfl, rfl, hw, x2⟩ := hcut
          have h6 : Has wc (blk b #[.pointer (some ⟨y.f, 0, none⟩), (Value.int .i64) 0, .slice y.A y.ps.length y.c, .pointer (some ⟨y.sh, 0, none⟩), Value.bool false, (.slice y.G gn.length y.d)] 63 * (prow (.slice y.A y.ps.length y.c) y.ps * (irow (.slice y.G gn.length y.d) gn * (shootAt y.sh td wt * (coresAt y.ps cs * (frA y.f sA * (irow (.slice G gn' gd) g * (blk E #[(Value.int .i64) 0, Value.bool false, (Value.int .i64) 0, (Value.int .i64) 0, (Value.int .i64) 0, Value.bool false] 39 * (blk M #[(Value.int .i64) mp.page, (Value.int .i64) mp.size, (Value.int .i64) mp.frame, (Value.int .i64) mp.rights] 31 * (blk X #[(Value.int .i64) 2, (Value.int .i64) x.core, (Value.int .i64) x.m.page, (Value.int .i64) x.m.size, (Value.int .i64) x.m.frame, (Value.int .i64) x.m.rights, (Value.int .i64) x.a.page, (Value.int .i64) x.a.kind, Value.bool x.a.user] 35 * R)))))))))) := hw.eq (by ac_rfl)
          obtain ⟨m0, m1, m2, m3⟩ := hw.cells4
          have ml := hw.lt
          go_wp2_with fail
          refine (HBG1.out G gn' gd g mp _ _ h6).mono ?_; rintro e w7 ⟨rfl, h7', x7⟩
          have h7 : Has w7 (blk E #[(Value.int .i64) 0, Value.bool false, (Value.int .i64) 0, (Value.int .i64) 0, (Value.int .i64) 0, Value.bool false] 39 * (spaceAt b (Sc.post ⟨sA, cs, td, wt, false, gn⟩ sA mp g) * (blk M #[(Value.int .i64) mp.page, (Value.int .i64) mp.size, (Value.int .i64) mp.frame, (Value.int .i64) mp.rights] 31 * (blk X #[(Value.int .i64) 2, (Value.int .i64) x.core, (Value.int .i64) x.m.page, (Value.int .i64) x.m.size, (Value.int .i64) x.m.frame, (Value.int .i64) x.m.rights, (Value.int .i64) x.a.page, (Value.int .i64) x.a.kind, Value.bool x.a.user] 35 * R)))) := h7'.eq (by ac_rfl)
          have x8 := x2.trans x7
          clear h6 h7' x2 x7 hw m0 m1 m2 m3 ml
          obtain ⟨e0, e1, e2, e3, e4, e5⟩ := h7.cells6
          obtain ⟨f0, f1, f2, f3, f4, f5⟩ := h7.frees6
          have el := h7.lt
          go_wp2_with fail
          refine ret_via (fun wz => Has wz (blk E #[(Value.int .i64) 0, Value.bool false, (Value.int .i64) 0, (Value.int .i64) 0, (Value.int .i64) 0, Value.bool false] 39 * (spaceAt b (Sc.post ⟨sA, cs, td, wt, false, gn⟩ sA mp g) * (blk M #[(Value.int .i64) mp.page, (Value.int .i64) mp.size, (Value.int .i64) mp.frame, (Value.int .i64) mp.rights] 31 * (blk X #[(Value.int .i64) 2, (Value.int .i64) x.core, (Value.int .i64) x.m.page, (Value.int .i64) x.m.size, (Value.int .i64) x.m.frame, (Value.int .i64) x.m.rights, (Value.int .i64) x.a.page, (Value.int .i64) x.a.kind, Value.bool x.a.user] 35 * R)))) ∧ Ext w wz) ⟨h7.set6 _ _ _ _ _ _, by (repeat (first | with_reducible assumption | with_reducible exact Ext.refl _ | with_reducible refine Ext.set ?_ _ _ | with_reducible refine Ext.alloc ?_ _ | with_reducible refine Ext.drew ?_ | with_reducible refine Ext.drewN ?_ _ | assumption | exact Ext.refl _ | refine Ext.alloc ?_ _ | refine Ext.set ?_ _ _ | refine Ext.drew ?_ | refine Ext.drewN ?_ _ | refine Ext.below ?_ (by assumption) | refine Ext.trans ?_ (by assumption)))⟩ ?_
          rintro wz ⟨hz, xz⟩
          exact bodyPost_ret (results_c Try.results21 rfl (load_event hz)) rfl ⟨rfl, (hz.right.eq (show _ = blk M #[(Value.int .i64) mp.page, (Value.int .i64) mp.size, (Value.int .i64) mp.frame, (Value.int .i64) mp.rights] 31 * (blk X #[(Value.int .i64) 2, (Value.int .i64) x.core, (Value.int .i64) x.m.page, (Value.int .i64) x.m.size, (Value.int .i64) x.m.frame, (Value.int .i64) x.m.rights, (Value.int .i64) x.a.page, (Value.int .i64) x.a.kind, Value.bool x.a.user] 35 * (spaceAt b (Sc.post ⟨sA, cs, td, wt, false, gn⟩ sA mp g) * R)) by ac_rfl)).right.right, xz⟩
      · have e : Sc.change ⟨s, cs, td, wt, false, gn⟩ x = (⟨s, cs, td, wt, false, gn⟩, .no (findC s 0 x.m.page)) := by unfold Sc.change; rw [if_neg (by simp), if_neg o1, if_pos o2, if_neg hcd]
        rw [e]
        have hss : remS s 0 x.m.page = s := by unfold remS; rw [if_neg hcd]
        rw [hss] at HR
        have HS1 := Lib.hid (HS.out s)
        have hcd' : (findC s 0 x.m.page != 0) = true := by simpa using hcd
        clear e HBG2 HS hcd hss o1
        generalize findC s 0 x.m.page = cd at *
        generalize findM s 0 x.m.page = mp at *
        generalize remG s 0 x.m.page = g at *
        generalize x.kind = op at *
        subst o2
        go_enter Try.func21, Try.ntmps21
        go_upto_region 10 with fail
        clear c0 c1 c2 c3 c4 c5 cl xc xl
        generalize (w.alloc (.cells #[(Value.int .i64) 2, (Value.int .i64) x.core, (Value.int .i64) x.m.page, (Value.int .i64) x.m.size, (Value.int .i64) x.m.frame, (Value.int .i64) x.m.rights, (Value.int .i64) x.a.page, (Value.int .i64) x.a.kind, Value.bool x.a.user] 35)).alloc (.cells #[(Value.int .i64) 0, Value.bool false, (Value.int .i64) 0, (Value.int .i64) 0, (Value.int .i64) 0, Value.bool false] 39) = w1 at *
        generalize w.heap.size = X at *
        generalize X + 1 = E at *
        have h2 : Has w1 (frA y.f s * (blk b #[.pointer (some ⟨y.f, 0, none⟩), (Value.int .i64) 0, .slice y.A y.ps.length y.c, .pointer (some ⟨y.sh, 0, none⟩), Value.bool false, (.slice y.G gn.length y.d)] 63 * (blk X #[(Value.int .i64) 2, (Value.int .i64) x.core, (Value.int .i64) x.m.page, (Value.int .i64) x.m.size, (Value.int .i64) x.m.frame, (Value.int .i64) x.m.rights, (Value.int .i64) x.a.page, (Value.int .i64) x.a.kind, Value.bool x.a.user] 35 * ((prow (.slice y.A y.ps.length y.c) y.ps * (irow (.slice y.G gn.length y.d) gn * (shootAt y.sh td wt * coresAt y.ps cs))) * (blk E #[(Value.int .i64) 0, Value.bool false, (Value.int .i64) 0, (Value.int .i64) 0, (Value.int .i64) 0, Value.bool false] 39 * R))))) := h1.eq (by ac_rfl)
        have HK := Lib.hid (fun (w' : World) (P Q : HProp) (h : Has w' (P * (blk b #[.pointer (some ⟨y.f, 0, none⟩), (Value.int .i64) 0, .slice y.A y.ps.length y.c, .pointer (some ⟨y.sh, 0, none⟩), Value.bool false, (.slice y.G gn.length y.d)] 63 * (blk X #[(Value.int .i64) 2, (Value.int .i64) x.core, (Value.int .i64) x.m.page, (Value.int .i64) x.m.size, (Value.int .i64) x.m.frame, (Value.int .i64) x.m.rights, (Value.int .i64) x.a.page, (Value.int .i64) x.a.kind, Value.bool x.a.user] 35 * Q)))) => (⟨h.right.cell 0, h.right.cell 1, h.right.right.cell 2, h.right.right.cell 3, h.right.right.cell 4, h.right.right.cell 5⟩ : w'.cell? ⟨b, 0, none⟩ = some (.pointer (some ⟨y.f, 0, none⟩)) ∧ w'.cell? ⟨b, 1, none⟩ = some ((Value.int .i64) 0) ∧ w'.cell? ⟨X, 2, none⟩ = some ((Value.int .i64) x.m.page) ∧ w'.cell? ⟨X, 3, none⟩ = some ((Value.int .i64) x.m.size) ∧ w'.cell? ⟨X, 4, none⟩ = some ((Value.int .i64) x.m.frame) ∧ w'.cell? ⟨X, 5, none⟩ = some ((Value.int .i64) x.m.rights)))
        have cl := h2.right.lt
        have xl := h2.right.right.lt
        have hd := h2.drew
        have xd := x0.drew
        have hz := h2
        have xz := x0
        clear h1 h2 x0
        go_cut [6, 7, 8] (fun s6 s7 s8 wx => ∃ (M : Nat) (G : Option Addr) (gn' gd : Nat), s6 = .pointer (some ⟨M, 0, none⟩) ∧ s7 = .slice G gn' gd ∧ s8 = (Value.int .i64) cd ∧ Has wx (blk M #[(Value.int .i64) mp.page, (Value.int .i64) mp.size, (Value.int .i64) mp.frame, (Value.int .i64) mp.rights] 31 * ((irow (.slice G gn' gd) g * frA y.f s) * (blk b #[.pointer (some ⟨y.f, 0, none⟩), (Value.int .i64) 0, .slice y.A y.ps.length y.c, .pointer (some ⟨y.sh, 0, none⟩), Value.bool false, (.slice y.G gn.length y.d)] 63 * (blk X #[(Value.int .i64) 2, (Value.int .i64) x.core, (Value.int .i64) x.m.page, (Value.int .i64) x.m.size, (Value.int .i64) x.m.frame, (Value.int .i64) x.m.rights, (Value.int .i64) x.a.page, (Value.int .i64) x.a.kind, Value.bool x.a.user] 35 * ((prow (.slice y.A y.ps.length y.c) y.ps * (irow (.slice y.G gn.length y.d) gn * (shootAt y.sh td wt * coresAt y.ps cs))) * (blk E #[(Value.int .i64) 0, Value.bool false, (Value.int .i64) 0, (Value.int .i64) 0, (Value.int .i64) 0, Value.bool false] 39 * R)))))) ∧ Ext w wx)
        case first =>
          have zd : Has (w1.alloc (.cells #[(Value.int .i64) 0, (Value.int .i64) 0, (Value.int .i64) 0, (Value.int .i64) 0] 31)).drew (frA y.f s * (blk b #[.pointer (some ⟨y.f, 0, none⟩), (Value.int .i64) 0, .slice y.A y.ps.length y.c, .pointer (some ⟨y.sh, 0, none⟩), Value.bool false, (.slice y.G gn.length y.d)] 63 * (blk X #[(Value.int .i64) 2, (Value.int .i64) x.core, (Value.int .i64) x.m.page, (Value.int .i64) x.m.size, (Value.int .i64) x.m.frame, (Value.int .i64) x.m.rights, (Value.int .i64) x.a.page, (Value.int .i64) x.a.kind, Value.bool x.a.user] 35 * ((prow (.slice y.A y.ps.length y.c) y.ps * (irow (.slice y.G gn.length y.d) gn * (shootAt y.sh td wt * coresAt y.ps cs))) * (blk E #[(Value.int .i64) 0, Value.bool false, (Value.int .i64) 0, (Value.int .i64) 0, (Value.int .i64) 0, Value.bool false] 39 * (blk w1.heap.size #[(Value.int .i64) 0, (Value.int .i64) 0, (Value.int .i64) 0, (Value.int .i64) 0] 31 * R)))))) := (hz.new #[(Value.int .i64) 0, (Value.int .i64) 0, (Value.int .i64) 0, (Value.int .i64) 0] 31).drew.eq (by ac_rfl)
          have yd := (xz.alloc (.cells #[(Value.int .i64) 0, (Value.int .i64) 0, (Value.int .i64) 0, (Value.int .i64) 0] 31)).drew
          go_region_held3 (fun w' => w'.cell? ⟨b, 0, none⟩ = some (.pointer (some ⟨y.f, 0, none⟩)) ∧ w'.cell? ⟨b, 1, none⟩ = some ((Value.int .i64) 0) ∧ w'.cell? ⟨X, 2, none⟩ = some ((Value.int .i64) x.m.page) ∧ w'.cell? ⟨X, 3, none⟩ = some ((Value.int .i64) x.m.size) ∧ w'.cell? ⟨X, 4, none⟩ = some ((Value.int .i64) x.m.frame) ∧ w'.cell? ⟨X, 5, none⟩ = some ((Value.int .i64) x.m.rights)) (first | (with_reducible exact HK.out _ _ _ hd) | (with_reducible exact HK.out _ _ _ zd) | (with_reducible exact HK.out _ _ _ hL) | (with_reducible exact HK.out _ _ _ (hL.alloc _)) | (with_reducible exact HK.out _ _ _ gL) | (with_reducible exact HK.out _ _ _ gL.right) | (with_reducible exact HK.out _ _ _ (gL.set4 _ _ _ _).right) | go_keep) (first | (go_at_call 37; first | ((with_reducible refine (HR.out _ _ hd).mono ?_); rintro e w5 ⟨G, gn', gd, rfl, h5, x5⟩; have hL : Has w5 ((irow (.slice G gn' gd) g * frA y.f s) * (blk b #[.pointer (some ⟨y.f, 0, none⟩), (Value.int .i64) 0, .slice y.A y.ps.length y.c, .pointer (some ⟨y.sh, 0, none⟩), Value.bool false, (.slice y.G gn.length y.d)] 63 * (blk X #[(Value.int .i64) 2, (Value.int .i64) x.core, (Value.int .i64) x.m.page, (Value.int .i64) x.m.size, (Value.int .i64) x.m.frame, (Value.int .i64) x.m.rights, (Value.int .i64) x.a.page, (Value.int .i64) x.a.kind, Value.bool x.a.user] 35 * ((prow (.slice y.A y.ps.length y.c) y.ps * (irow (.slice y.G gn.length y.d) gn * (shootAt y.sh td wt * coresAt y.ps cs))) * (blk E #[(Value.int .i64) 0, Value.bool false, (Value.int .i64) 0, (Value.int .i64) 0, (Value.int .i64) 0, Value.bool false] 39 * R))))) := h5.eq (by ac_rfl); have xL := xd.trans x5) | ((with_reducible refine (HR.out _ _ zd).mono ?_); rintro e w5 ⟨G, gn', gd, rfl, g5, y5⟩; have gL : Has w5 (blk w1.heap.size #[(Value.int .i64) 0, (Value.int .i64) 0, (Value.int .i64) 0, (Value.int .i64) 0] 31 * ((irow (.slice G gn' gd) g * frA y.f s) * (blk b #[.pointer (some ⟨y.f, 0, none⟩), (Value.int .i64) 0, .slice y.A y.ps.length y.c, .pointer (some ⟨y.sh, 0, none⟩), Value.bool false, (.slice y.G gn.length y.d)] 63 * (blk X #[(Value.int .i64) 2, (Value.int .i64) x.core, (Value.int .i64) x.m.page, (Value.int .i64) x.m.size, (Value.int .i64) x.m.frame, (Value.int .i64) x.m.rights, (Value.int .i64) x.a.page, (Value.int .i64) x.a.kind, Value.bool x.a.user] 35 * ((prow (.slice y.A y.ps.length y.c) y.ps * (irow (.slice y.G gn.length y.d) gn * (shootAt y.sh td wt * coresAt y.ps cs))) * (blk E #[(Value.int .i64) 0, Value.bool false, (Value.int .i64) 0, (Value.int .i64) 0, (Value.int .i64) 0, Value.bool false] 39 * R)))))) := g5.eq (by ac_rfl); have yL := yd.trans y5; obtain ⟨z0, z1, z2, z3⟩ := gL.cells4; obtain ⟨y0, y1, y2, y3⟩ := gL.frees4; have zl := gL.lt)))
          all_goals
            go_wp2_with fail
            go_meet
            case rel => first | exact ⟨_, G, gn', gd, rfl, rfl, rfl, hL.new #[(Value.int .i64) mp.page, (Value.int .i64) mp.size, (Value.int .i64) mp.frame, (Value.int .i64) mp.rights] 31, xL.alloc _⟩ | exact ⟨_, G, gn', gd, rfl, rfl, rfl, gL.set4 _ _ _ _, (((yL.set _ _).set _ _).set _ _).set _ _⟩
        case rest =>
          clear hd xd hz xz HK cl xl HR
          obtain ⟨M, G, gn', gd, rfl, rfl, rfl, hw, x2⟩ := hcut
          have h6 : Has wc (blk E #[(Value.int .i64) 0, Value.bool false, (Value.int .i64) 0, (Value.int .i64) 0, (Value.int .i64) 0, Value.bool false] 39 * (blk b #[.pointer (some ⟨y.f, 0, none⟩), (Value.int .i64) 0, .slice y.A y.ps.length y.c, .pointer (some ⟨y.sh, 0, none⟩), Value.bool false, (.slice y.G gn.length y.d)] 63 * ((prow (.slice y.A y.ps.length y.c) y.ps * (irow (.slice y.G gn.length y.d) gn * (shootAt y.sh td wt * coresAt y.ps cs))) * (frA y.f s * (irow (.slice G gn' gd) g * (blk M #[(Value.int .i64) mp.page, (Value.int .i64) mp.size, (Value.int .i64) mp.frame, (Value.int .i64) mp.rights] 31 * (blk X #[(Value.int .i64) 2, (Value.int .i64) x.core, (Value.int .i64) x.m.page, (Value.int .i64) x.m.size, (Value.int .i64) x.m.frame, (Value.int .i64) x.m.rights, (Value.int .i64) x.a.page, (Value.int .i64) x.a.kind, Value.bool x.a.user] 35 * R))))))) := hw.eq (by ac_rfl)
          clear hw
          go_wp2_with fail
          refine (refusedS cd _).mono ?_; rintro e w7 ⟨rfl, b7⟩
          have h7 := h6.below b7
          have x7 := x2.below b7
          clear h6 x2 b7
          obtain ⟨e0, e1, e2, e3, e4, e5⟩ := h7.cells6
          obtain ⟨f0, f1, f2, f3, f4, f5⟩ := h7.frees6
          have el := h7.lt
          go_wp2_with fail
          refine ret_via (fun wz => Has wz (blk E #[(Value.int .i64) cd, Value.bool false, (Value.int .i64) 0, (Value.int .i64) 0, (Value.int .i64) 0, Value.bool false] 39 * (blk b #[.pointer (some ⟨y.f, 0, none⟩), (Value.int .i64) 0, .slice y.A y.ps.length y.c, .pointer (some ⟨y.sh, 0, none⟩), Value.bool false, (.slice y.G gn.length y.d)] 63 * ((prow (.slice y.A y.ps.length y.c) y.ps * (irow (.slice y.G gn.length y.d) gn * (shootAt y.sh td wt * coresAt y.ps cs))) * (frA y.f s * (irow (.slice G gn' gd) g * (blk M #[(Value.int .i64) mp.page, (Value.int .i64) mp.size, (Value.int .i64) mp.frame, (Value.int .i64) mp.rights] 31 * (blk X #[(Value.int .i64) 2, (Value.int .i64) x.core, (Value.int .i64) x.m.page, (Value.int .i64) x.m.size, (Value.int .i64) x.m.frame, (Value.int .i64) x.m.rights, (Value.int .i64) x.a.page, (Value.int .i64) x.a.kind, Value.bool x.a.user] 35 * R))))))) ∧ Ext w wz) ⟨h7.set6 _ _ _ _ _ _, by (repeat (first | with_reducible assumption | with_reducible exact Ext.refl _ | with_reducible refine Ext.set ?_ _ _ | with_reducible refine Ext.alloc ?_ _ | with_reducible refine Ext.drew ?_ | with_reducible refine Ext.drewN ?_ _ | assumption | exact Ext.refl _ | refine Ext.alloc ?_ _ | refine Ext.set ?_ _ _ | refine Ext.drew ?_ | refine Ext.drewN ?_ _ | refine Ext.below ?_ (by assumption) | refine Ext.trans ?_ (by assumption)))⟩ ?_
          rintro wz ⟨hz, xz⟩
          exact bodyPost_ret (results_c Try.results21 rfl (load_event hz)) rfl ⟨rfl, HS1.out _ (irow (.slice G gn' gd) g * (blk M #[(Value.int .i64) mp.page, (Value.int .i64) mp.size, (Value.int .i64) mp.frame, (Value.int .i64) mp.rights] 31 * (blk X #[(Value.int .i64) 2, (Value.int .i64) x.core, (Value.int .i64) x.m.page, (Value.int .i64) x.m.size, (Value.int .i64) x.m.frame, (Value.int .i64) x.m.rights, (Value.int .i64) x.a.page, (Value.int .i64) x.a.kind, Value.bool x.a.user] 35 * R))) (hz.right.eq (by ac_rfl)) |>.eq (show _ = irow (.slice G gn' gd) g * (blk M #[(Value.int .i64) mp.page, (Value.int .i64) mp.size, (Value.int .i64) mp.frame, (Value.int .i64) mp.rights] 31 * (blk X #[(Value.int .i64) 2, (Value.int .i64) x.core, (Value.int .i64) x.m.page, (Value.int .i64) x.m.size, (Value.int .i64) x.m.frame, (Value.int .i64) x.m.rights, (Value.int .i64) x.a.page, (Value.int .i64) x.a.kind, Value.bool x.a.user] 35 * (spaceAt b ⟨s, cs, td, wt, false, gn⟩ * R))) by ac_rfl) |>.right.right.right, xz⟩
    · skip
      have HR := Lib.hid (fun R w h => prA y.f s R w h 0 x.m.page x.m.rights)
      unfold Mp.val at HR
      by_cases hcd : prC s 0 x.m.page x.m.rights = 0
      · have e : Sc.change ⟨s, cs, td, wt, false, gn⟩ x = (Sc.post ⟨s, cs, td, wt, false, gn⟩ (prS s 0 x.m.page x.m.rights) (prM s 0 x.m.page x.m.rights) [], .no 0) := by unfold Sc.change; rw [if_neg (by simp), if_neg o1, if_neg o2, if_pos hcd]
        rw [e]
        rw [hcd] at HR
        have HBG1 := Lib.hid (fun G gn gd g m R w h => HBG2.out (prS s 0 x.m.page x.m.rights) G gn gd g m R w h)
        clear e HBG2 HS hcd
        generalize prM s 0 x.m.page x.m.rights = mp at *
        generalize prS s 0 x.m.page x.m.rights = sA at *
        go_enter Try.func21, Try.ntmps21
        go_upto_region 14 with fail
        clear c0 c1 c2 c3 c4 c5 cl xc xl
        generalize (w.alloc (.cells #[(Value.int .i64) x.kind, (Value.int .i64) x.core, (Value.int .i64) x.m.page, (Value.int .i64) x.m.size, (Value.int .i64) x.m.frame, (Value.int .i64) x.m.rights, (Value.int .i64) x.a.page, (Value.int .i64) x.a.kind, Value.bool x.a.user] 35)).alloc (.cells #[(Value.int .i64) 0, Value.bool false, (Value.int .i64) 0, (Value.int .i64) 0, (Value.int .i64) 0, Value.bool false] 39) = w1 at *
        generalize w.heap.size = X at *
        generalize X + 1 = E at *
        have h2 : Has w1 (frA y.f s * (blk b #[.pointer (some ⟨y.f, 0, none⟩), (Value.int .i64) 0, .slice y.A y.ps.length y.c, .pointer (some ⟨y.sh, 0, none⟩), Value.bool false, (.slice y.G gn.length y.d)] 63 * (blk X #[(Value.int .i64) x.kind, (Value.int .i64) x.core, (Value.int .i64) x.m.page, (Value.int .i64) x.m.size, (Value.int .i64) x.m.frame, (Value.int .i64) x.m.rights, (Value.int .i64) x.a.page, (Value.int .i64) x.a.kind, Value.bool x.a.user] 35 * ((prow (.slice y.A y.ps.length y.c) y.ps * (irow (.slice y.G gn.length y.d) gn * (shootAt y.sh td wt * coresAt y.ps cs))) * (blk E #[(Value.int .i64) 0, Value.bool false, (Value.int .i64) 0, (Value.int .i64) 0, (Value.int .i64) 0, Value.bool false] 39 * R))))) := h1.eq (by ac_rfl)
        have HK := Lib.hid (fun (w' : World) (P Q : HProp) (h : Has w' (P * (blk b #[.pointer (some ⟨y.f, 0, none⟩), (Value.int .i64) 0, .slice y.A y.ps.length y.c, .pointer (some ⟨y.sh, 0, none⟩), Value.bool false, (.slice y.G gn.length y.d)] 63 * (blk X #[(Value.int .i64) x.kind, (Value.int .i64) x.core, (Value.int .i64) x.m.page, (Value.int .i64) x.m.size, (Value.int .i64) x.m.frame, (Value.int .i64) x.m.rights, (Value.int .i64) x.a.page, (Value.int .i64) x.a.kind, Value.bool x.a.user] 35 * Q)))) => (⟨h.right.cell 0, h.right.cell 1, h.right.right.cell 2, h.right.right.cell 3, h.right.right.cell 4, h.right.right.cell 5⟩ : w'.cell? ⟨b, 0, none⟩ = some (.pointer (some ⟨y.f, 0, none⟩)) ∧ w'.cell? ⟨b, 1, none⟩ = some ((Value.int .i64) 0) ∧ w'.cell? ⟨X, 2, none⟩ = some ((Value.int .i64) x.m.page) ∧ w'.cell? ⟨X, 3, none⟩ = some ((Value.int .i64) x.m.size) ∧ w'.cell? ⟨X, 4, none⟩ = some ((Value.int .i64) x.m.frame) ∧ w'.cell? ⟨X, 5, none⟩ = some ((Value.int .i64) x.m.rights)))
        have cl := h2.right.lt
        have xl := h2.right.right.lt
        have hd := h2.drew
        have xd := x0.drew
        have hz := h2
        have xz := x0
        clear h1 h2 x0
        have zd : Has (w1.alloc (.cells #[(Value.int .i64) 0, (Value.int .i64) 0, (Value.int .i64) 0, (Value.int .i64) 0] 31)).drew (frA y.f s * (blk b #[.pointer (some ⟨y.f, 0, none⟩), (Value.int .i64) 0, .slice y.A y.ps.length y.c, .pointer (some ⟨y.sh, 0, none⟩), Value.bool false, (.slice y.G gn.length y.d)] 63 * (blk X #[(Value.int .i64) x.kind, (Value.int .i64) x.core, (Value.int .i64) x.m.page, (Value.int .i64) x.m.size, (Value.int .i64) x.m.frame, (Value.int .i64) x.m.rights, (Value.int .i64) x.a.page, (Value.int .i64) x.a.kind, Value.bool x.a.user] 35 * ((prow (.slice y.A y.ps.length y.c) y.ps * (irow (.slice y.G gn.length y.d) gn * (shootAt y.sh td wt * coresAt y.ps cs))) * (blk E #[(Value.int .i64) 0, Value.bool false, (Value.int .i64) 0, (Value.int .i64) 0, (Value.int .i64) 0, Value.bool false] 39 * (blk w1.heap.size #[(Value.int .i64) 0, (Value.int .i64) 0, (Value.int .i64) 0, (Value.int .i64) 0] 31 * R)))))) := (hz.new #[(Value.int .i64) 0, (Value.int .i64) 0, (Value.int .i64) 0, (Value.int .i64) 0] 31).drew.eq (by ac_rfl)
        have yd := (xz.alloc (.cells #[(Value.int .i64) 0, (Value.int .i64) 0, (Value.int .i64) 0, (Value.int .i64) 0] 31)).drew
        go_region_held3 (fun w' => w'.cell? ⟨b, 0, none⟩ = some (.pointer (some ⟨y.f, 0, none⟩)) ∧ w'.cell? ⟨b, 1, none⟩ = some ((Value.int .i64) 0) ∧ w'.cell? ⟨X, 2, none⟩ = some ((Value.int .i64) x.m.page) ∧ w'.cell? ⟨X, 3, none⟩ = some ((Value.int .i64) x.m.size) ∧ w'.cell? ⟨X, 4, none⟩ = some ((Value.int .i64) x.m.frame) ∧ w'.cell? ⟨X, 5, none⟩ = some ((Value.int .i64) x.m.rights)) (first | (with_reducible exact HK.out _ _ _ hd) | (with_reducible exact HK.out _ _ _ zd) | (with_reducible exact HK.out _ _ _ hL) | (with_reducible exact HK.out _ _ _ (hL.alloc _)) | (with_reducible exact HK.out _ _ _ gL) | (with_reducible exact HK.out _ _ _ gL.right) | (with_reducible exact HK.out _ _ _ (gL.set4 _ _ _ _).right) | go_keep) (first | (go_at_call 39; first | ((with_reducible refine (HR.out _ _ hd).mono ?_); rintro e w5 ⟨rfl, h5, x5⟩; have hL : Has w5 ((frA y.f sA) * (blk b #[.pointer (some ⟨y.f, 0, none⟩), (Value.int .i64) 0, .slice y.A y.ps.length y.c, .pointer (some ⟨y.sh, 0, none⟩), Value.bool false, (.slice y.G gn.length y.d)] 63 * (blk X #[(Value.int .i64) x.kind, (Value.int .i64) x.core, (Value.int .i64) x.m.page, (Value.int .i64) x.m.size, (Value.int .i64) x.m.frame, (Value.int .i64) x.m.rights, (Value.int .i64) x.a.page, (Value.int .i64) x.a.kind, Value.bool x.a.user] 35 * ((prow (.slice y.A y.ps.length y.c) y.ps * (irow (.slice y.G gn.length y.d) gn * (shootAt y.sh td wt * coresAt y.ps cs))) * (blk E #[(Value.int .i64) 0, Value.bool false, (Value.int .i64) 0, (Value.int .i64) 0, (Value.int .i64) 0, Value.bool false] 39 * R))))) := h5.eq (by ac_rfl); have xL := xd.trans x5) | ((with_reducible refine (HR.out _ _ zd).mono ?_); rintro e w5 ⟨rfl, g5, y5⟩; have gL : Has w5 (blk w1.heap.size #[(Value.int .i64) 0, (Value.int .i64) 0, (Value.int .i64) 0, (Value.int .i64) 0] 31 * ((frA y.f sA) * (blk b #[.pointer (some ⟨y.f, 0, none⟩), (Value.int .i64) 0, .slice y.A y.ps.length y.c, .pointer (some ⟨y.sh, 0, none⟩), Value.bool false, (.slice y.G gn.length y.d)] 63 * (blk X #[(Value.int .i64) x.kind, (Value.int .i64) x.core, (Value.int .i64) x.m.page, (Value.int .i64) x.m.size, (Value.int .i64) x.m.frame, (Value.int .i64) x.m.rights, (Value.int .i64) x.a.page, (Value.int .i64) x.a.kind, Value.bool x.a.user] 35 * ((prow (.slice y.A y.ps.length y.c) y.ps * (irow (.slice y.G gn.length y.d) gn * (shootAt y.sh td wt * coresAt y.ps cs))) * (blk E #[(Value.int .i64) 0, Value.bool false, (Value.int .i64) 0, (Value.int .i64) 0, (Value.int .i64) 0, Value.bool false] 39 * R)))))) := g5.eq (by ac_rfl); have yL := yd.trans y5; obtain ⟨z0, z1, z2, z3⟩ := gL.cells4; obtain ⟨y0, y1, y2, y3⟩ := gL.frees4; have zl := gL.lt)))
        all_goals
          first
          | (have hw := hL.new #[(Value.int .i64) mp.page, (Value.int .i64) mp.size, (Value.int .i64) mp.frame, (Value.int .i64) mp.rights] 31
             have x2 := xL.alloc (.cells #[(Value.int .i64) mp.page, (Value.int .i64) mp.size, (Value.int .i64) mp.frame, (Value.int .i64) mp.rights] 31)
             clear hL xL h5 x5
             generalize w5.alloc (.cells #[(Value.int .i64) mp.page, (Value.int .i64) mp.size, (Value.int .i64) mp.frame, (Value.int .i64) mp.rights] 31) = wc at *
             generalize w5.heap.size = M at *)
          | (have hw := gL.set4 ((Value.int .i64) mp.page) ((Value.int .i64) mp.size) ((Value.int .i64) mp.frame) ((Value.int .i64) mp.rights)
             have x2 := (((yL.set ⟨w1.heap.size, 0, none⟩ ((Value.int .i64) mp.page)).set ⟨w1.heap.size, 1, none⟩ ((Value.int .i64) mp.size)).set ⟨w1.heap.size, 2, none⟩ ((Value.int .i64) mp.frame)).set ⟨w1.heap.size, 3, none⟩ ((Value.int .i64) mp.rights)
             clear gL yL g5 y5 z0 z1 z2 z3 y0 y1 y2 y3 zl
             generalize (((w5.setCell ⟨w1.heap.size, 0, none⟩ ((Value.int .i64) mp.page)).setCell ⟨w1.heap.size, 1, none⟩ ((Value.int .i64) mp.size)).setCell ⟨w1.heap.size, 2, none⟩ ((Value.int .i64) mp.frame)).setCell ⟨w1.heap.size, 3, none⟩ ((Value.int .i64) mp.rights) = wc at *
             generalize w1.heap.size = M at *)
          clear hd xd hz xz HK cl xl HR zd yd
          have h6' : Has wc (irow (.slice none 0 0) [] * (blk b #[.pointer (some ⟨y.f, 0, none⟩), (Value.int .i64) 0, .slice y.A y.ps.length y.c, .pointer (some ⟨y.sh, 0, none⟩), Value.bool false, (.slice y.G gn.length y.d)] 63 * (prow (.slice y.A y.ps.length y.c) y.ps * (irow (.slice y.G gn.length y.d) gn * (shootAt y.sh td wt * (coresAt y.ps cs * (frA y.f sA * (blk E #[(Value.int .i64) 0, Value.bool false, (Value.int .i64) 0, (Value.int .i64) 0, (Value.int .i64) 0, Value.bool false] 39 * (blk M #[(Value.int .i64) mp.page, (Value.int .i64) mp.size, (Value.int .i64) mp.frame, (Value.int .i64) mp.rights] 31 * (blk X #[(Value.int .i64) x.kind, (Value.int .i64) x.core, (Value.int .i64) x.m.page, (Value.int .i64) x.m.size, (Value.int .i64) x.m.frame, (Value.int .i64) x.m.rights, (Value.int .i64) x.a.page, (Value.int .i64) x.a.kind, Value.bool x.a.user] 35 * R)))))))))) := Has.rowNil (e := 3) (size := 1) (hw.eq (by ac_rfl))
          have h6 : Has wc (blk b #[.pointer (some ⟨y.f, 0, none⟩), (Value.int .i64) 0, .slice y.A y.ps.length y.c, .pointer (some ⟨y.sh, 0, none⟩), Value.bool false, (.slice y.G gn.length y.d)] 63 * (prow (.slice y.A y.ps.length y.c) y.ps * (irow (.slice y.G gn.length y.d) gn * (shootAt y.sh td wt * (coresAt y.ps cs * (frA y.f sA * (irow (.slice none 0 0) [] * (blk E #[(Value.int .i64) 0, Value.bool false, (Value.int .i64) 0, (Value.int .i64) 0, (Value.int .i64) 0, Value.bool false] 39 * (blk M #[(Value.int .i64) mp.page, (Value.int .i64) mp.size, (Value.int .i64) mp.frame, (Value.int .i64) mp.rights] 31 * (blk X #[(Value.int .i64) x.kind, (Value.int .i64) x.core, (Value.int .i64) x.m.page, (Value.int .i64) x.m.size, (Value.int .i64) x.m.frame, (Value.int .i64) x.m.rights, (Value.int .i64) x.a.page, (Value.int .i64) x.a.kind, Value.bool x.a.user] 35 * R)))))))))) := h6'.eq (by ac_rfl)
          clear h6'
          obtain ⟨m0, m1, m2, m3⟩ := hw.cells4
          have ml := hw.lt
          go_wp2_with fail
          refine (HBG1.out none 0 0 [] mp _ _ h6).mono ?_; rintro e w7 ⟨rfl, h7', x7⟩
          have h7 : Has w7 (blk E #[(Value.int .i64) 0, Value.bool false, (Value.int .i64) 0, (Value.int .i64) 0, (Value.int .i64) 0, Value.bool false] 39 * (spaceAt b (Sc.post ⟨sA, cs, td, wt, false, gn⟩ sA mp []) * (blk M #[(Value.int .i64) mp.page, (Value.int .i64) mp.size, (Value.int .i64) mp.frame, (Value.int .i64) mp.rights] 31 * (blk X #[(Value.int .i64) x.kind, (Value.int .i64) x.core, (Value.int .i64) x.m.page, (Value.int .i64) x.m.size, (Value.int .i64) x.m.frame, (Value.int .i64) x.m.rights, (Value.int .i64) x.a.page, (Value.int .i64) x.a.kind, Value.bool x.a.user] 35 * R)))) := h7'.eq (by ac_rfl)
          have x8 := x2.trans x7
          clear h6 h7' x2 x7 hw m0 m1 m2 m3 ml
          obtain ⟨e0, e1, e2, e3, e4, e5⟩ := h7.cells6
          obtain ⟨f0, f1, f2, f3, f4, f5⟩ := h7.frees6
          have el := h7.lt
          go_wp2_with fail
          refine ret_via (fun wz => Has wz (blk E #[(Value.int .i64) 0, Value.bool false, (Value.int .i64) 0, (Value.int .i64) 0, (Value.int .i64) 0, Value.bool false] 39 * (spaceAt b (Sc.post ⟨sA, cs, td, wt, false, gn⟩ sA mp []) * (blk M #[(Value.int .i64) mp.page, (Value.int .i64) mp.size, (Value.int .i64) mp.frame, (Value.int .i64) mp.rights] 31 * (blk X #[(Value.int .i64) x.kind, (Value.int .i64) x.core, (Value.int .i64) x.m.page, (Value.int .i64) x.m.size, (Value.int .i64) x.m.frame, (Value.int .i64) x.m.rights, (Value.int .i64) x.a.page, (Value.int .i64) x.a.kind, Value.bool x.a.user] 35 * R)))) ∧ Ext w wz) ⟨h7.set6 _ _ _ _ _ _, by (repeat (first | with_reducible assumption | with_reducible exact Ext.refl _ | with_reducible refine Ext.set ?_ _ _ | with_reducible refine Ext.alloc ?_ _ | with_reducible refine Ext.drew ?_ | with_reducible refine Ext.drewN ?_ _ | assumption | exact Ext.refl _ | refine Ext.alloc ?_ _ | refine Ext.set ?_ _ _ | refine Ext.drew ?_ | refine Ext.drewN ?_ _ | refine Ext.below ?_ (by assumption) | refine Ext.trans ?_ (by assumption)))⟩ ?_
          rintro wz ⟨hz, xz⟩
          exact bodyPost_ret (results_c Try.results21 rfl (load_event hz)) rfl ⟨rfl, (hz.right.eq (show _ = blk M #[(Value.int .i64) mp.page, (Value.int .i64) mp.size, (Value.int .i64) mp.frame, (Value.int .i64) mp.rights] 31 * (blk X #[(Value.int .i64) x.kind, (Value.int .i64) x.core, (Value.int .i64) x.m.page, (Value.int .i64) x.m.size, (Value.int .i64) x.m.frame, (Value.int .i64) x.m.rights, (Value.int .i64) x.a.page, (Value.int .i64) x.a.kind, Value.bool x.a.user] 35 * (spaceAt b (Sc.post ⟨sA, cs, td, wt, false, gn⟩ sA mp []) * R)) by ac_rfl)).right.right, xz⟩
      · have e : Sc.change ⟨s, cs, td, wt, false, gn⟩ x = (⟨s, cs, td, wt, false, gn⟩, .no (prC s 0 x.m.page x.m.rights)) := by unfold Sc.change; rw [if_neg (by simp), if_neg o1, if_neg o2, if_neg hcd]
        rw [e]
        have hss : prS s 0 x.m.page x.m.rights = s := by unfold prS; rw [if_neg hcd]
        rw [hss] at HR
        have HS1 := Lib.hid (HS.out s)
        have hcd' : (prC s 0 x.m.page x.m.rights != 0) = true := by simpa using hcd
        clear e HBG2 HS hcd hss
        generalize prC s 0 x.m.page x.m.rights = cd at *
        generalize prM s 0 x.m.page x.m.rights = mp at *
        go_enter Try.func21, Try.ntmps21
        go_upto_region 14 with fail
        clear c0 c1 c2 c3 c4 c5 cl xc xl
        generalize (w.alloc (.cells #[(Value.int .i64) x.kind, (Value.int .i64) x.core, (Value.int .i64) x.m.page, (Value.int .i64) x.m.size, (Value.int .i64) x.m.frame, (Value.int .i64) x.m.rights, (Value.int .i64) x.a.page, (Value.int .i64) x.a.kind, Value.bool x.a.user] 35)).alloc (.cells #[(Value.int .i64) 0, Value.bool false, (Value.int .i64) 0, (Value.int .i64) 0, (Value.int .i64) 0, Value.bool false] 39) = w1 at *
        generalize w.heap.size = X at *
        generalize X + 1 = E at *
        have h2 : Has w1 (frA y.f s * (blk b #[.pointer (some ⟨y.f, 0, none⟩), (Value.int .i64) 0, .slice y.A y.ps.length y.c, .pointer (some ⟨y.sh, 0, none⟩), Value.bool false, (.slice y.G gn.length y.d)] 63 * (blk X #[(Value.int .i64) x.kind, (Value.int .i64) x.core, (Value.int .i64) x.m.page, (Value.int .i64) x.m.size, (Value.int .i64) x.m.frame, (Value.int .i64) x.m.rights, (Value.int .i64) x.a.page, (Value.int .i64) x.a.kind, Value.bool x.a.user] 35 * ((prow (.slice y.A y.ps.length y.c) y.ps * (irow (.slice y.G gn.length y.d) gn * (shootAt y.sh td wt * coresAt y.ps cs))) * (blk E #[(Value.int .i64) 0, Value.bool false, (Value.int .i64) 0, (Value.int .i64) 0, (Value.int .i64) 0, Value.bool false] 39 * R))))) := h1.eq (by ac_rfl)
        have HK := Lib.hid (fun (w' : World) (P Q : HProp) (h : Has w' (P * (blk b #[.pointer (some ⟨y.f, 0, none⟩), (Value.int .i64) 0, .slice y.A y.ps.length y.c, .pointer (some ⟨y.sh, 0, none⟩), Value.bool false, (.slice y.G gn.length y.d)] 63 * (blk X #[(Value.int .i64) x.kind, (Value.int .i64) x.core, (Value.int .i64) x.m.page, (Value.int .i64) x.m.size, (Value.int .i64) x.m.frame, (Value.int .i64) x.m.rights, (Value.int .i64) x.a.page, (Value.int .i64) x.a.kind, Value.bool x.a.user] 35 * Q)))) => (⟨h.right.cell 0, h.right.cell 1, h.right.right.cell 2, h.right.right.cell 3, h.right.right.cell 4, h.right.right.cell 5⟩ : w'.cell? ⟨b, 0, none⟩ = some (.pointer (some ⟨y.f, 0, none⟩)) ∧ w'.cell? ⟨b, 1, none⟩ = some ((Value.int .i64) 0) ∧ w'.cell? ⟨X, 2, none⟩ = some ((Value.int .i64) x.m.page) ∧ w'.cell? ⟨X, 3, none⟩ = some ((Value.int .i64) x.m.size) ∧ w'.cell? ⟨X, 4, none⟩ = some ((Value.int .i64) x.m.frame) ∧ w'.cell? ⟨X, 5, none⟩ = some ((Value.int .i64) x.m.rights)))
        have cl := h2.right.lt
        have xl := h2.right.right.lt
        have hd := h2.drew
        have xd := x0.drew
        have hz := h2
        have xz := x0
        clear h1 h2 x0
        have zd : Has (w1.alloc (.cells #[(Value.int .i64) 0, (Value.int .i64) 0, (Value.int .i64) 0, (Value.int .i64) 0] 31)).drew (frA y.f s * (blk b #[.pointer (some ⟨y.f, 0, none⟩), (Value.int .i64) 0, .slice y.A y.ps.length y.c, .pointer (some ⟨y.sh, 0, none⟩), Value.bool false, (.slice y.G gn.length y.d)] 63 * (blk X #[(Value.int .i64) x.kind, (Value.int .i64) x.core, (Value.int .i64) x.m.page, (Value.int .i64) x.m.size, (Value.int .i64) x.m.frame, (Value.int .i64) x.m.rights, (Value.int .i64) x.a.page, (Value.int .i64) x.a.kind, Value.bool x.a.user] 35 * ((prow (.slice y.A y.ps.length y.c) y.ps * (irow (.slice y.G gn.length y.d) gn * (shootAt y.sh td wt * coresAt y.ps cs))) * (blk E #[(Value.int .i64) 0, Value.bool false, (Value.int .i64) 0, (Value.int .i64) 0, (Value.int .i64) 0, Value.bool false] 39 * (blk w1.heap.size #[(Value.int .i64) 0, (Value.int .i64) 0, (Value.int .i64) 0, (Value.int .i64) 0] 31 * R)))))) := (hz.new #[(Value.int .i64) 0, (Value.int .i64) 0, (Value.int .i64) 0, (Value.int .i64) 0] 31).drew.eq (by ac_rfl)
        have yd := (xz.alloc (.cells #[(Value.int .i64) 0, (Value.int .i64) 0, (Value.int .i64) 0, (Value.int .i64) 0] 31)).drew
        go_region_held3 (fun w' => w'.cell? ⟨b, 0, none⟩ = some (.pointer (some ⟨y.f, 0, none⟩)) ∧ w'.cell? ⟨b, 1, none⟩ = some ((Value.int .i64) 0) ∧ w'.cell? ⟨X, 2, none⟩ = some ((Value.int .i64) x.m.page) ∧ w'.cell? ⟨X, 3, none⟩ = some ((Value.int .i64) x.m.size) ∧ w'.cell? ⟨X, 4, none⟩ = some ((Value.int .i64) x.m.frame) ∧ w'.cell? ⟨X, 5, none⟩ = some ((Value.int .i64) x.m.rights)) (first | (with_reducible exact HK.out _ _ _ hd) | (with_reducible exact HK.out _ _ _ zd) | (with_reducible exact HK.out _ _ _ hL) | (with_reducible exact HK.out _ _ _ (hL.alloc _)) | (with_reducible exact HK.out _ _ _ gL) | (with_reducible exact HK.out _ _ _ gL.right) | (with_reducible exact HK.out _ _ _ (gL.set4 _ _ _ _).right) | go_keep) (first | (go_at_call 39; first | ((with_reducible refine (HR.out _ _ hd).mono ?_); rintro e w5 ⟨rfl, h5, x5⟩; have hL : Has w5 ((frA y.f s) * (blk b #[.pointer (some ⟨y.f, 0, none⟩), (Value.int .i64) 0, .slice y.A y.ps.length y.c, .pointer (some ⟨y.sh, 0, none⟩), Value.bool false, (.slice y.G gn.length y.d)] 63 * (blk X #[(Value.int .i64) x.kind, (Value.int .i64) x.core, (Value.int .i64) x.m.page, (Value.int .i64) x.m.size, (Value.int .i64) x.m.frame, (Value.int .i64) x.m.rights, (Value.int .i64) x.a.page, (Value.int .i64) x.a.kind, Value.bool x.a.user] 35 * ((prow (.slice y.A y.ps.length y.c) y.ps * (irow (.slice y.G gn.length y.d) gn * (shootAt y.sh td wt * coresAt y.ps cs))) * (blk E #[(Value.int .i64) 0, Value.bool false, (Value.int .i64) 0, (Value.int .i64) 0, (Value.int .i64) 0, Value.bool false] 39 * R))))) := h5.eq (by ac_rfl); have xL := xd.trans x5) | ((with_reducible refine (HR.out _ _ zd).mono ?_); rintro e w5 ⟨rfl, g5, y5⟩; have gL : Has w5 (blk w1.heap.size #[(Value.int .i64) 0, (Value.int .i64) 0, (Value.int .i64) 0, (Value.int .i64) 0] 31 * ((frA y.f s) * (blk b #[.pointer (some ⟨y.f, 0, none⟩), (Value.int .i64) 0, .slice y.A y.ps.length y.c, .pointer (some ⟨y.sh, 0, none⟩), Value.bool false, (.slice y.G gn.length y.d)] 63 * (blk X #[(Value.int .i64) x.kind, (Value.int .i64) x.core, (Value.int .i64) x.m.page, (Value.int .i64) x.m.size, (Value.int .i64) x.m.frame, (Value.int .i64) x.m.rights, (Value.int .i64) x.a.page, (Value.int .i64) x.a.kind, Value.bool x.a.user] 35 * ((prow (.slice y.A y.ps.length y.c) y.ps * (irow (.slice y.G gn.length y.d) gn * (shootAt y.sh td wt * coresAt y.ps cs))) * (blk E #[(Value.int .i64) 0, Value.bool false, (Value.int .i64) 0, (Value.int .i64) 0, (Value.int .i64) 0, Value.bool false] 39 * R)))))) := g5.eq (by ac_rfl); have yL := yd.trans y5; obtain ⟨z0, z1, z2, z3⟩ := gL.cells4; obtain ⟨y0, y1, y2, y3⟩ := gL.frees4; have zl := gL.lt)))
        all_goals
          first
          | (have hw := hL.new #[(Value.int .i64) mp.page, (Value.int .i64) mp.size, (Value.int .i64) mp.frame, (Value.int .i64) mp.rights] 31
             have x2 := xL.alloc (.cells #[(Value.int .i64) mp.page, (Value.int .i64) mp.size, (Value.int .i64) mp.frame, (Value.int .i64) mp.rights] 31)
             clear hL xL h5 x5
             generalize w5.alloc (.cells #[(Value.int .i64) mp.page, (Value.int .i64) mp.size, (Value.int .i64) mp.frame, (Value.int .i64) mp.rights] 31) = wc at *
             generalize w5.heap.size = M at *)
          | (have hw := gL.set4 ((Value.int .i64) mp.page) ((Value.int .i64) mp.size) ((Value.int .i64) mp.frame) ((Value.int .i64) mp.rights)
             have x2 := (((yL.set ⟨w1.heap.size, 0, none⟩ ((Value.int .i64) mp.page)).set ⟨w1.heap.size, 1, none⟩ ((Value.int .i64) mp.size)).set ⟨w1.heap.size, 2, none⟩ ((Value.int .i64) mp.frame)).set ⟨w1.heap.size, 3, none⟩ ((Value.int .i64) mp.rights)
             clear gL yL g5 y5 z0 z1 z2 z3 y0 y1 y2 y3 zl
             generalize (((w5.setCell ⟨w1.heap.size, 0, none⟩ ((Value.int .i64) mp.page)).setCell ⟨w1.heap.size, 1, none⟩ ((Value.int .i64) mp.size)).setCell ⟨w1.heap.size, 2, none⟩ ((Value.int .i64) mp.frame)).setCell ⟨w1.heap.size, 3, none⟩ ((Value.int .i64) mp.rights) = wc at *
             generalize w1.heap.size = M at *)
          clear hd xd hz xz HK cl xl HR zd yd
          have h6 : Has wc (blk E #[(Value.int .i64) 0, Value.bool false, (Value.int .i64) 0, (Value.int .i64) 0, (Value.int .i64) 0, Value.bool false] 39 * (blk b #[.pointer (some ⟨y.f, 0, none⟩), (Value.int .i64) 0, .slice y.A y.ps.length y.c, .pointer (some ⟨y.sh, 0, none⟩), Value.bool false, (.slice y.G gn.length y.d)] 63 * ((prow (.slice y.A y.ps.length y.c) y.ps * (irow (.slice y.G gn.length y.d) gn * (shootAt y.sh td wt * coresAt y.ps cs))) * (frA y.f s * ((blk M #[(Value.int .i64) mp.page, (Value.int .i64) mp.size, (Value.int .i64) mp.frame, (Value.int .i64) mp.rights] 31 * (blk X #[(Value.int .i64) x.kind, (Value.int .i64) x.core, (Value.int .i64) x.m.page, (Value.int .i64) x.m.size, (Value.int .i64) x.m.frame, (Value.int .i64) x.m.rights, (Value.int .i64) x.a.page, (Value.int .i64) x.a.kind, Value.bool x.a.user] 35 * R))))))) := hw.eq (by ac_rfl)
          clear hw
          go_wp2_with fail
          refine (refusedS cd _).mono ?_; rintro e w7 ⟨rfl, b7⟩
          have h7 := h6.below b7
          have x7 := x2.below b7
          clear h6 x2 b7
          obtain ⟨e0, e1, e2, e3, e4, e5⟩ := h7.cells6
          obtain ⟨f0, f1, f2, f3, f4, f5⟩ := h7.frees6
          have el := h7.lt
          go_wp2_with fail
          refine ret_via (fun wz => Has wz (blk E #[(Value.int .i64) cd, Value.bool false, (Value.int .i64) 0, (Value.int .i64) 0, (Value.int .i64) 0, Value.bool false] 39 * (blk b #[.pointer (some ⟨y.f, 0, none⟩), (Value.int .i64) 0, .slice y.A y.ps.length y.c, .pointer (some ⟨y.sh, 0, none⟩), Value.bool false, (.slice y.G gn.length y.d)] 63 * ((prow (.slice y.A y.ps.length y.c) y.ps * (irow (.slice y.G gn.length y.d) gn * (shootAt y.sh td wt * coresAt y.ps cs))) * (frA y.f s * ((blk M #[(Value.int .i64) mp.page, (Value.int .i64) mp.size, (Value.int .i64) mp.frame, (Value.int .i64) mp.rights] 31 * (blk X #[(Value.int .i64) x.kind, (Value.int .i64) x.core, (Value.int .i64) x.m.page, (Value.int .i64) x.m.size, (Value.int .i64) x.m.frame, (Value.int .i64) x.m.rights, (Value.int .i64) x.a.page, (Value.int .i64) x.a.kind, Value.bool x.a.user] 35 * R))))))) ∧ Ext w wz) ⟨h7.set6 _ _ _ _ _ _, by (repeat (first | with_reducible assumption | with_reducible exact Ext.refl _ | with_reducible refine Ext.set ?_ _ _ | with_reducible refine Ext.alloc ?_ _ | with_reducible refine Ext.drew ?_ | with_reducible refine Ext.drewN ?_ _ | assumption | exact Ext.refl _ | refine Ext.alloc ?_ _ | refine Ext.set ?_ _ _ | refine Ext.drew ?_ | refine Ext.drewN ?_ _ | refine Ext.below ?_ (by assumption) | refine Ext.trans ?_ (by assumption)))⟩ ?_
          rintro wz ⟨hz, xz⟩
          exact bodyPost_ret (results_c Try.results21 rfl (load_event hz)) rfl ⟨rfl, HS1.out _ ((blk M #[(Value.int .i64) mp.page, (Value.int .i64) mp.size, (Value.int .i64) mp.frame, (Value.int .i64) mp.rights] 31 * (blk X #[(Value.int .i64) x.kind, (Value.int .i64) x.core, (Value.int .i64) x.m.page, (Value.int .i64) x.m.size, (Value.int .i64) x.m.frame, (Value.int .i64) x.m.rights, (Value.int .i64) x.a.page, (Value.int .i64) x.a.kind, Value.bool x.a.user] 35 * R))) (hz.right.eq (by ac_rfl)) |>.eq (show _ = (blk M #[(Value.int .i64) mp.page, (Value.int .i64) mp.size, (Value.int .i64) mp.frame, (Value.int .i64) mp.rights] 31 * (blk X #[(Value.int .i64) x.kind, (Value.int .i64) x.core, (Value.int .i64) x.m.page, (Value.int .i64) x.m.size, (Value.int .i64) x.m.frame, (Value.int .i64) x.m.rights, (Value.int .i64) x.a.page, (Value.int .i64) x.a.kind, Value.bool x.a.user] 35 * (spaceAt b ⟨s, cs, td, wt, false, gn⟩ * R))) by ac_rfl) |>.right.right, xz⟩
end Go.Proofs.Ytmfheghbgihdmaa
