/- The law TableStays: the walk. -/
import Derived.Test.YtegkimecdonfgaaTabR
import Derived.Test.YtegkimecdonfgaaEach
import Derived.Test.YtegkimecdonfgaaRefEnt2
import Derived.Test.YtegkimecdonfgaaSameW
import Derived.Test.YtegkimecdonfgaaWkFind
namespace Go.Proofs.Ytegkimecdonfgaa
open Go.RowKit
set_option maxRecDepth 100000
set_option maxHeartbeats 8000000 in
theorem tableStays_walk (N : Int) (B : Option Addr) (m d : Nat) (L : List Stp) (x : Stp) (w : World) (_ : i64 N) (h2 : Arr w B m 9 (L.map Stp.cells)) (_ : ∀ x ∈ L, x.ok) (_ : x.ok) :
    Calls Try.prog 3 #[(Value.int .i64) N, .slice B m d, .agg #[(Value.int .i64) x.kind, (Value.int .i64) x.core, (Value.int .i64) x.m.page, (Value.int .i64) x.m.size, (Value.int .i64) x.m.frame, (Value.int .i64) x.m.rights, (Value.int .i64) x.a.page, (Value.int .i64) x.a.kind, Value.bool x.a.user]] w (Pure (Value.bool true) w) := by
  have hm2 := h2.2.1
  have hB := Lib.hid h2
  have hL := Lib.hid (show L.length = m by simpa using h2.1)
  clear h2
  have h0 := (has_old w).new #[(Value.int .i64) x.kind, (Value.int .i64) x.core, (Value.int .i64) x.m.page, (Value.int .i64) x.m.size, (Value.int .i64) x.m.frame, (Value.int .i64) x.m.rights, (Value.int .i64) x.a.page, (Value.int .i64) x.a.kind, Value.bool x.a.user] 28
  have x0 := (Ext.refl w).alloc (.cells #[(Value.int .i64) x.kind, (Value.int .i64) x.core, (Value.int .i64) x.m.page, (Value.int .i64) x.m.size, (Value.int .i64) x.m.frame, (Value.int .i64) x.m.rights, (Value.int .i64) x.a.page, (Value.int .i64) x.a.kind, Value.bool x.a.user] 28)
  have HB := Lib.hid (fun w => tableBegun_any w)
  by_cases hN0 : N < 1
  · go_enter Try.func3, Try.ntmps3
    go_wp2_with (refine (HB.out _).mono ?_; rintro e w1 ⟨rfl, hb⟩)
    go_ret
    exact ⟨rfl, below_of1 (h0.below hb).right (x0.below hb)⟩
  by_cases hN1 : 128 < N
  · go_enter Try.func3, Try.ntmps3
    go_wp2_with (refine (HB.out _).mono ?_; rintro e w1 ⟨rfl, hb⟩)
    go_ret
    exact ⟨rfl, below_of1 (h0.below hb).right (x0.below hb)⟩
  by_cases hbig2 : 150 < m
  · go_enter Try.func3, Try.ntmps3
    go_wp2_with (refine (HB.out _).mono ?_; rintro e w1 ⟨rfl, hb⟩)
    go_ret
    exact ⟨rfl, below_of1 (h0.below hb).right (x0.below hb)⟩
  have hs := memS_ok (n := N) (taken := 1) (ws := []) (by omega) (by omega) (fun x hx => (by cases hx))
  go_enter Try.func3, Try.ntmps3
  go_wp2_with fail
  refine (HB.out _).mono ?_; rintro e w1 ⟨rfl, hb⟩
  have h1 := h0.below hb
  have x1 := x0.below hb
  clear h0 x0 hb HB
  go_wp2_with fail
  have hA1 : Arr w1 none 0 1 (([] : List Int).map cellsU) := ⟨rfl, by omega, fun i xs hi => (by simp at hi)⟩
  refine (memory_any N 1 none 0 0 [] _ (by omega) (by omega) hA1 (fun x hx => (by cases hx))).mono ?_; rintro e w2 ⟨f, q, rfl, h2, x2⟩
  have h3' := (h1.onto' h2.a2).a1
  have h3 : Has w2 (frA f (memS N 1 []) * (memAt q (memS N 1 []) * (blk w.heap.size #[(Value.int .i64) x.kind, (Value.int .i64) x.core, (Value.int .i64) x.m.page, (Value.int .i64) x.m.size, (Value.int .i64) x.m.frame, (Value.int .i64) x.m.rights, (Value.int .i64) x.a.page, (Value.int .i64) x.a.kind, Value.bool x.a.user] 28 * old w w.heap.size))) := frA_shut h3' hs (Agree.refl _)
  have x3 := x1.trans x2
  clear h1 x1 h2 x2 hA1 h3'
  generalize memS N 1 [] = s at *
  go_wp2_with fail
  go_loopw [9] (fun t wr => ∃ (i : Nat) (s1 : Ms), i ≤ m ∧ t = (Value.int .i64) i ∧ s1.Ok ∧ Has wr (frA f s1 * (memAt q s1 * (blk w.heap.size #[(Value.int .i64) x.kind, (Value.int .i64) x.core, (Value.int .i64) x.m.page, (Value.int .i64) x.m.size, (Value.int .i64) x.m.frame, (Value.int .i64) x.m.rights, (Value.int .i64) x.a.page, (Value.int .i64) x.a.kind, Value.bool x.a.user] 28 * old w w.heap.size))) ∧ Ext w wr) (fun t _ => m - (intOf t).toNat)
  case atStart => exact ⟨0, s, by omega, rfl, hs, h3, x3⟩
  case round =>
    clear h3 x3 hs
    obtain ⟨i, s1, hi, rfl, hs1, hr, hx⟩ := hrel
    by_cases hlt : i < m
    · have hil : i < L.length := by have := hL.out; omega
      obtain ⟨b', off, hb, -⟩ := (hB.out.old1 hr.right.right.right hx).stp hil
      subst hb
      obtain ⟨y, hy⟩ : ∃ y, L[i] = y := ⟨_, rfl⟩
      have HD := Lib.hid (fun (w' : World) (P Q S : HProp) (h : Has w' (P * (Q * (S * old w w.heap.size)))) (e : Ext w w') => (hB.out.old1 h.right.right.right e).stpAt hil hy)
      clear hy
      obtain ⟨dl, d0, d1, d2, d3, d4, d5, d6, d7, d8⟩ := HD.out _ _ _ _ hr hx
      go_upto_block 2 with fail
      by_cases o1 : y.kind = 1
      · as_aux_lemma =>
        --[A
        have HI1 := Lib.hid (fun R w h => insA f s1 R w h 0 y.m)
        have HI2 := Lib.hid (fun R w h => insR q s1 0 y.m R w hs1 h)
        have HO := Lib.hid (insS_ok hs1 0 y.m)
        generalize insC s1 0 y.m = cd at *
        generalize insS s1 0 y.m = sA at *
        go_wp2_with fail
        refine (HI1.out _ _ hr).mono ?_; rintro e w5 ⟨rfl, h5, x5⟩
        have h6 := h5.p2
        have x6 := hx.trans x5
        clear dl d0 d1 d2 d3 d4 d5 d6 d7 d8 hr hx
        obtain ⟨dl, d0, d1, d2, d3, d4, d5, d6, d7, d8⟩ := HD.out _ _ _ _ h6 x6
        go_wp2_with fail
        refine (HI2.out _ _ h6).mono ?_; rintro e w7 ⟨rfl, h7, x7⟩
        go_wp2_with fail
        go_roundw
        case rel => exact ⟨i + 1, sA, by omega, by go_num, HO.out, h7.p2, x6.trans x7⟩
        case measure => simp [intOf]; omega
        --A]
      by_cases o2 : y.kind = 2
      · as_aux_lemma =>
        --[B
        have HR1 := Lib.hid (fun R w h => remA f s1 R w h 0 y.m.page)
        have HR2 := Lib.hid (fun R w h => remR q s1 0 y.m.page R w hs1 h)
        unfold RemovedA at HR1
        unfold RemovedR at HR2
        have HO := Lib.hid (remS_ok hs1 0 y.m.page)
        generalize findC s1 0 y.m.page = cd at *
        generalize findM s1 0 y.m.page = mp at *
        generalize remG s1 0 y.m.page = g at *
        generalize remS s1 0 y.m.page = sA at *
        go_wp2_with fail
        refine (HR1.out _ _ hr).mono ?_; rintro e w5 ⟨G, gn, gc, rfl, h5, x5⟩
        have h6 : Has _ (memAt q s1 * (frA f sA * ((irow (.slice G gn gc) g * blk w.heap.size #[(Value.int .i64) x.kind, (Value.int .i64) x.core, (Value.int .i64) x.m.page, (Value.int .i64) x.m.size, (Value.int .i64) x.m.frame, (Value.int .i64) x.m.rights, (Value.int .i64) x.a.page, (Value.int .i64) x.a.kind, Value.bool x.a.user] 28) * old w w.heap.size))) := (h5.alloc (.cells #[(Value.int .i64) mp.page, (Value.int .i64) mp.size, (Value.int .i64) mp.frame, (Value.int .i64) mp.rights] 24)).eq (by ac_rfl)
        have x6 := (hx.trans x5).alloc (.cells #[(Value.int .i64) mp.page, (Value.int .i64) mp.size, (Value.int .i64) mp.frame, (Value.int .i64) mp.rights] 24)
        clear dl d0 d1 d2 d3 d4 d5 d6 d7 d8 hr hx h5 x5 HR1
        go_upto_region 15 with fail
        generalize w5.alloc (.cells #[(Value.int .i64) mp.page, (Value.int .i64) mp.size, (Value.int .i64) mp.frame, (Value.int .i64) mp.rights] 24) = w6 at *
        obtain ⟨dl, d0, d1, d2, d3, d4, d5, d6, d7, d8⟩ := HD.out _ _ _ _ h6 x6
        go_wp2_with fail
        refine (HR2.out _ _ h6).mono ?_; rintro e w9 ⟨H, hn, hc, rfl, h9, x9⟩
        have h14 : Has w9 (frA f sA * (memAt q sA * (irow (.slice G gn gc) g * (blk w.heap.size #[(Value.int .i64) x.kind, (Value.int .i64) x.core, (Value.int .i64) x.m.page, (Value.int .i64) x.m.size, (Value.int .i64) x.m.frame, (Value.int .i64) x.m.rights, (Value.int .i64) x.a.page, (Value.int .i64) x.a.kind, Value.bool x.a.user] 28 * old w w.heap.size)))) := (h9.eq (Q := irow (.slice H hn hc) g * (frA f sA * (memAt q sA * (irow (.slice G gn gc) g * (blk w.heap.size #[(Value.int .i64) x.kind, (Value.int .i64) x.core, (Value.int .i64) x.m.page, (Value.int .i64) x.m.size, (Value.int .i64) x.m.frame, (Value.int .i64) x.m.rights, (Value.int .i64) x.a.page, (Value.int .i64) x.a.kind, Value.bool x.a.user] 28 * old w w.heap.size))))) (by ac_rfl)).right
        have x14 := x6.trans x9
        clear dl d0 d1 d2 d3 d4 d5 d6 d7 d8 h6 x6 h9 x9 HR2
        have hgl := Lib.hid (irow_len h14.right.right)
        have hgs := irow_small h14.right.right
        go_wp2_with fail
        go_loopw [13] (fun t wz => ∃ (k : Nat) (sa : Ms), k ≤ gn ∧ t = (Value.int .i64) k ∧ sa.Ok ∧ Has wz (frA f sa * (memAt q sa * (irow (.slice G gn gc) g * (blk w.heap.size #[(Value.int .i64) x.kind, (Value.int .i64) x.core, (Value.int .i64) x.m.page, (Value.int .i64) x.m.size, (Value.int .i64) x.m.frame, (Value.int .i64) x.m.rights, (Value.int .i64) x.a.page, (Value.int .i64) x.a.kind, Value.bool x.a.user] 28 * old w w.heap.size)))) ∧ Ext w wz) (fun t _ => gn - (intOf t).toNat)
        case atStart => exact ⟨0, sA, by omega, rfl, HO.out, h14, x14⟩
        case round =>
          clear h14 x14 HO
          obtain ⟨k, sa, hk, rfl, hsa, hz, hxz⟩ := hrel
          by_cases hkl : k < gn
          · obtain ⟨bG, hG, hbG, cG⟩ := irow_at hz.right.right (k := k) (by have := hgl.out; omega)
            subst hG
            have hkg : k < g.length := by have := hgl.out; omega
            have HCG := Lib.hid (fun (w' : World) (P Q : HProp) (h : Has w' (P * (Q * (irow (.slice (some ⟨bG, 0, none⟩) gn gc) g * (blk w.heap.size #[(Value.int .i64) x.kind, (Value.int .i64) x.core, (Value.int .i64) x.m.page, (Value.int .i64) x.m.size, (Value.int .i64) x.m.frame, (Value.int .i64) x.m.rights, (Value.int .i64) x.a.page, (Value.int .i64) x.a.kind, Value.bool x.a.user] 28 * old w w.heap.size))))) => (by
              obtain ⟨b2, h2, h4, h3⟩ := irow_at h.right.right (k := k) hkg
              injection h2 with h2
              injection h2 with h2
              subst h2
              exact ⟨h4, h3⟩ : bG < w'.heap.size ∧ w'.cell? ⟨bG, k, none⟩ = some ((Value.int .i64) g[k])))
            generalize g[k] = v at *
            clear hkg
            have GF := Lib.hid (fun R w h => giveA f sa R w h v)
            have GM := Lib.hid (fun R w h => giveM q sa v R w h hsa)
            have HO1 := Lib.hid (hsa.giveS v)
            generalize sa.has v = bb at *
            generalize sa.giveS v = sa' at *
            go_wp2_with fail
            refine (GF.out _ _ hz).mono ?_; rintro e w5 ⟨rfl, h5, x5⟩
            have h6 := h5.p2
            have x6 := hxz.trans x5
            clear hbG cG hz hxz h5 x5
            obtain ⟨hbG, cG⟩ := HCG.out _ _ _ h6
            go_wp2_with fail
            refine (GM.out _ _ h6).mono ?_; rintro e w7 ⟨rfl, h7, x7⟩
            go_wp2_with fail
            go_roundw
            case rel => exact ⟨k + 1, sa', by omega, by go_num, HO1.out, h7.p2, x6.trans x7⟩
            case measure => simp [intOf]; omega
          · obtain rfl : k = gn := by omega
            go_wp2_with fail
            go_roundw
            case rel => exact ⟨i + 1, sa, by omega, by go_num, hsa, (hz.eq (Q := irow (.slice G k gc) g * (frA f sa * (memAt q sa * (blk w.heap.size #[(Value.int .i64) x.kind, (Value.int .i64) x.core, (Value.int .i64) x.m.page, (Value.int .i64) x.m.size, (Value.int .i64) x.m.frame, (Value.int .i64) x.m.rights, (Value.int .i64) x.a.page, (Value.int .i64) x.a.kind, Value.bool x.a.user] 28 * old w w.heap.size)))) (by ac_rfl)).right, hxz⟩
            case measure => simp [intOf]; omega
        --B]
      go_wp2_with fail
      go_roundw
      case rel => exact ⟨i + 1, s1, by omega, by go_num, hs1, hr, hx⟩
      case measure => simp [intOf]; omega
    · obtain rfl : i = m := by omega
      clear hB hL hi hlt hm2 hbig2
      have SW := Lib.hid (fun (sx : Ms) (ok : sx.Ok) (ha : Agree sx s1) R w h => sameWords_any f q sx s1 ha ok.small R w h)
      have TF := Lib.hid (fun (sx : Ms) (ok : sx.Ok) (ha : Agree sx s1) R w h => takeF f sx R w h ok)
      have TM := Lib.hid (fun R w h => takeM q s1 R w h hs1)
      have hc0 := hr.right.right.cell 0
      have hc2 := hr.right.right.cell 2
      have hc3 := hr.right.right.cell 3
      have hc4 := hr.right.right.cell 4
      have hc5 := hr.right.right.cell 5
      have hcl := hr.right.right.lt
      go_upto_block 5 with fail
      by_cases o1 : x.kind = 1
      · as_aux_lemma =>
        --[C
        have HI1 := Lib.hid (fun R w h => insA f s1 R w h 0 x.m)
        have HN := Lib.hid (fun (hh : insC s1 0 x.m ≠ 0) => insS_no hh)
        generalize insC s1 0 x.m = cd at *
        generalize insS s1 0 x.m = sA at *
        go_wp2_with fail
        refine (HI1.out _ _ hr).mono ?_; rintro e w5 ⟨rfl, h5, x5⟩
        have x6 := hx.trans x5
        clear hc0 hc2 hc3 hc4 hc5 hcl hr hx x5
        by_cases hcd : cd = 0
        · subst hcd
          clear HN
          go_wp2_with fail
          go_ret
          exact ⟨rfl, below_of1 h5.right.right.right x6⟩
        · rw [HN.out hcd] at h5
          obtain ⟨sx, okx, hax, h6⟩ := frA_open h5
          have hcd' : (cd == 0) = false := by simpa using hcd
          have et : sx.topV = s1.topV := by unfold Ms.topV; rw [hax.top]
          have TF' := Lib.hid (TF.out sx okx hax)
          rw [et] at TF'
          clear HN hcd h5
          go_wp2_with fail
          refine (SW.out sx okx hax _ _ h6).mono ?_; rintro e w7 ⟨rfl, rfl⟩
          go_wp2_with fail
          refine (TF'.out _ _ h6).mono ?_; rintro e w8 ⟨rfl, h8, x8⟩
          go_wp2_with fail
          refine (TM.out _ _ h8.p2).mono ?_; rintro e w9 ⟨rfl, h9, x9⟩
          go_wp2_with fail
          go_ret
          exact ⟨rfl, below_of1 h9.right.right.right ((x6.trans x8).trans x9)⟩
        --C]
      by_cases o2 : x.kind = 2
      · as_aux_lemma =>
        --[E
        have HR1 := Lib.hid (fun R w h => remA f s1 R w h 0 x.m.page)
        unfold RemovedA at HR1
        have HN := Lib.hid (fun (hh : findC s1 0 x.m.page ≠ 0) => (show remS s1 0 x.m.page = s1 by unfold remS; rw [if_neg hh]))
        generalize findC s1 0 x.m.page = cd at *
        generalize findM s1 0 x.m.page = mp at *
        generalize remG s1 0 x.m.page = g at *
        generalize remS s1 0 x.m.page = sA at *
        go_wp2_with fail
        refine (HR1.out _ _ hr).mono ?_; rintro e w5 ⟨G, gn, gc, rfl, h5', x5⟩
        have h5 := h5'.right
        have x6 := hx.trans x5
        clear hc0 hc2 hc3 hc4 hc5 hcl hr hx x5 h5' HR1
        by_cases hcd : cd = 0
        · subst hcd
          clear HN
          go_wp2_with fail
          go_ret
          exact ⟨rfl, below_of1 h5.right.right.right x6⟩
        · rw [HN.out hcd] at h5
          obtain ⟨sx, okx, hax, h6⟩ := frA_open h5
          have hcd' : (cd == 0) = false := by simpa using hcd
          have et : sx.topV = s1.topV := by unfold Ms.topV; rw [hax.top]
          have TF' := Lib.hid (TF.out sx okx hax)
          rw [et] at TF'
          clear HN hcd h5
          go_wp2_with fail
          refine (SW.out sx okx hax _ _ h6).mono ?_; rintro e w7 ⟨rfl, rfl⟩
          go_wp2_with fail
          refine (TF'.out _ _ h6).mono ?_; rintro e w8 ⟨rfl, h8, x8⟩
          go_wp2_with fail
          refine (TM.out _ _ h8.p2).mono ?_; rintro e w9 ⟨rfl, h9, x9⟩
          go_wp2_with fail
          go_ret
          exact ⟨rfl, below_of1 h9.right.right.right ((x6.trans x8).trans x9)⟩
        --E]
      by_cases o3 : x.kind = 3
      · as_aux_lemma =>
        --[F
        have HI1 := Lib.hid (fun R w h => prA f s1 R w h 0 x.m.page x.m.rights)
        have HN := Lib.hid (fun (hh : prC s1 0 x.m.page x.m.rights ≠ 0) => (show prS s1 0 x.m.page x.m.rights = s1 by unfold prS; rw [if_neg hh]))
        generalize prC s1 0 x.m.page x.m.rights = cd at *
        generalize prM s1 0 x.m.page x.m.rights = mp at *
        generalize prS s1 0 x.m.page x.m.rights = sA at *
        go_wp2_with fail
        refine (HI1.out _ _ hr).mono ?_; rintro e w5 ⟨rfl, h5, x5⟩
        have x6 := hx.trans x5
        clear hc0 hc2 hc3 hc4 hc5 hcl hr hx x5
        by_cases hcd : cd = 0
        · subst hcd
          clear HN
          go_wp2_with fail
          go_ret
          exact ⟨rfl, below_of1 h5.right.right.right x6⟩
        · rw [HN.out hcd] at h5
          obtain ⟨sx, okx, hax, h6⟩ := frA_open h5
          have hcd' : (cd == 0) = false := by simpa using hcd
          have et : sx.topV = s1.topV := by unfold Ms.topV; rw [hax.top]
          have TF' := Lib.hid (TF.out sx okx hax)
          rw [et] at TF'
          clear HN hcd h5
          go_wp2_with fail
          refine (SW.out sx okx hax _ _ h6).mono ?_; rintro e w7 ⟨rfl, rfl⟩
          go_wp2_with fail
          refine (TF'.out _ _ h6).mono ?_; rintro e w8 ⟨rfl, h8, x8⟩
          go_wp2_with fail
          refine (TM.out _ _ h8.p2).mono ?_; rintro e w9 ⟨rfl, h9, x9⟩
          go_wp2_with fail
          go_ret
          exact ⟨rfl, below_of1 h9.right.right.right ((x6.trans x8).trans x9)⟩
        --F]
      go_wp2_with fail
      go_ret
      exact ⟨rfl, below_of1 hr.right.right.right hx⟩
end Go.Proofs.Ytegkimecdonfgaa
