/- The law TableDoes: the walk. -/
import Derived.Test.YtegkimecdonfgaaTabR
import Derived.Test.YtegkimecdonfgaaRefEnt2
import Derived.Test.YtegkimecdonfgaaSameW
import Derived.Test.YtegkimecdonfgaaFrm
namespace Go.Proofs.Ytegkimecdonfgaa
open Go.RowKit
set_option maxRecDepth 100000
set_option maxHeartbeats 8000000 in
theorem tableDoes_walk (N : Int) (A : Option Addr) (n c : Nat) (l : List Int) (T : Int) (B : Option Addr) (m d : Nat) (L : List Stp) (w : World) (_ : i64 N) (h : Arr w A n 1 (l.map cellsU)) (hok : ∀ x ∈ l, u64 x) (_ : i64 T)
    (h2 : Arr w B m 9 (L.map Stp.cells)) (hok2 : ∀ x ∈ L, x.ok) :
    Calls Try.prog 4 #[(Value.int .i64) N, .slice A n c, (Value.int .i64) T, .slice B m d] w (Pure (Value.bool true) w) := by
  have hm := h.2.1
  have hm2 := h2.2.1
  have hA := Lib.hid h
  have hB := Lib.hid h2
  have hL := Lib.hid (show L.length = m by simpa using h2.1)
  clear h h2
  have h0 := has_old w
  have HB := Lib.hid (tableBegun_any w)
  by_cases hN0 : N < 1
  · go_enter Try.func4, Try.ntmps4
    go_wp2_with (refine HB.out.mono ?_; rintro e w1 ⟨rfl, hb⟩)
    go_ret
    exact ⟨rfl, hb⟩
  by_cases hN1 : 128 < N
  · go_enter Try.func4, Try.ntmps4
    go_wp2_with (refine HB.out.mono ?_; rintro e w1 ⟨rfl, hb⟩)
    go_ret
    exact ⟨rfl, hb⟩
  by_cases hbig2 : 150 < m
  · go_enter Try.func4, Try.ntmps4
    go_wp2_with (refine HB.out.mono ?_; rintro e w1 ⟨rfl, hb⟩)
    go_ret
    exact ⟨rfl, hb⟩
  by_cases hbig : 2000 < n
  · go_enter Try.func4, Try.ntmps4
    go_wp2_with (refine HB.out.mono ?_; rintro e w1 ⟨rfl, hb⟩)
    go_ret
    exact ⟨rfl, hb⟩
  have hs := memS_ok (n := N) (taken := max T 1) (ws := l) (by omega) (by omega) hok
  go_enter Try.func4, Try.ntmps4
  go_wp2_with fail
  refine HB.out.mono ?_; rintro e w1 ⟨rfl, hb⟩
  have h1 := h0.below hb
  have x1 := (Ext.refl w).below hb
  have hA1 := hA.out.old1 h1 x1
  clear h0 hb
  go_upto_region 5 with fail
  go_cut [9, 10] (fun s9 s10 wx => ∃ f q, s9 = .pointer (some ⟨f, 0, none⟩) ∧ s10 = .pointer (some ⟨q, 0, none⟩) ∧ Has wx (framesAt f (memS N (max T 1) l) * (memAt q (memS N (max T 1) l) * old w w.heap.size)) ∧ Ext w wx)
  case first =>
    go_wp2_with fail
    · rename_i hT
      refine (memory_any N 1 A n c l _ (by omega) (by omega) hA1 hok).mono ?_; rintro e w2 ⟨f, q, rfl, h2, x2⟩
      rw [show (1 : Int) = max T 1 by omega] at h2
      go_wp2_with fail
      go_meet
      case rel => exact ⟨f, q, rfl, rfl, (h1.onto' h2.a2).a1, x1.trans x2⟩
    · rename_i hT
      refine (memory_any N T A n c l _ (by omega) (by omega) hA1 hok).mono ?_; rintro e w2 ⟨f, q, rfl, h2, x2⟩
      rw [show T = max T 1 by omega] at h2
      go_wp2_with fail
      go_meet
      case rel => exact ⟨f, q, rfl, rfl, (h1.onto' h2.a2).a1, x1.trans x2⟩
  case rest =>
  clear h1 x1 hA1 hA
  obtain ⟨f, q, rfl, rfl, h3, x3⟩ := hcut
  generalize memS N (max T 1) l = s at *
  go_wp2_with fail
  go_loopw [11] (fun t wr => ∃ (i : Nat) (s1 s2 : Ms), i ≤ m ∧ t = (Value.int .i64) i ∧ s1.Ok ∧ s2.Ok ∧ Hid (Agree s1 s2) ∧ Has wr (framesAt f s1 * (memAt q s2 * old w w.heap.size)) ∧ Ext w wr) (fun t _ => m - (intOf t).toNat)
  case atStart => exact ⟨0, s, s, by omega, rfl, hs, hs, Lib.hid (Agree.refl s), h3, x3⟩
  case round =>
    clear h3 x3 hs
    obtain ⟨i, s1, s2, hi, rfl, hs1, hs2, HAG, hr, hx⟩ := hrel
    by_cases hlt : i < m
    · have hil : i < L.length := by have := hL.out; omega
      obtain ⟨b', off, hb, hbl, hc⟩ := (hB.out.old1 hr.right.right hx).at_ (i := i) (xs := (L[i]).cells) (by simp [hil])
      have ho := hok2 _ (List.getElem_mem hil)
      generalize L[i] = x at hc ho
      obtain ⟨hop, _, hMo, hAc⟩ := ho
      have d0 : wr.cell? ⟨b', off + i * 9, none⟩ = some ((Value.int .i64) x.kind) := hc 0 _ rfl
      have d1 : wr.cell? ⟨b', off + i * 9 + 1, none⟩ = some ((Value.int .i64) x.core) := hc 1 _ rfl
      have d2 : wr.cell? ⟨b', off + i * 9 + 2, none⟩ = some ((Value.int .i64) x.m.page) := hc 2 _ rfl
      have d3 : wr.cell? ⟨b', off + i * 9 + 3, none⟩ = some ((Value.int .i64) x.m.size) := hc 3 _ rfl
      have d4 : wr.cell? ⟨b', off + i * 9 + 4, none⟩ = some ((Value.int .i64) x.m.frame) := hc 4 _ rfl
      have d5 : wr.cell? ⟨b', off + i * 9 + 5, none⟩ = some ((Value.int .i64) x.m.rights) := hc 5 _ rfl
      have d6 : wr.cell? ⟨b', off + i * 9 + 6, none⟩ = some ((Value.int .i64) x.a.page) := hc 6 _ rfl
      have d7 : wr.cell? ⟨b', off + i * 9 + 7, none⟩ = some ((Value.int .i64) x.a.kind) := hc 7 _ rfl
      have d8 : wr.cell? ⟨b', off + i * 9 + 8, none⟩ = some (Value.bool x.a.user) := hc 8 _ rfl
      clear hc
      subst hb
      have hs4 := ((hr.new #[(Value.int .i64) x.kind, (Value.int .i64) x.core, (Value.int .i64) x.m.page, (Value.int .i64) x.m.size, (Value.int .i64) x.m.frame, (Value.int .i64) x.m.rights, (Value.int .i64) x.a.page, (Value.int .i64) x.a.kind, Value.bool x.a.user] 28).new #[(Value.int .i64) 0, (Value.int .i64) 0, (Value.int .i64) 0, (Value.int .i64) 0] 24).new #[(Value.int .i64) 0, (Value.int .i64) 0, (Value.int .i64) 0, (Value.int .i64) 0] 24
      simp only [World.size_alloc] at hs4
      have x2 := ((hx.alloc (.cells #[(Value.int .i64) x.kind, (Value.int .i64) x.core, (Value.int .i64) x.m.page, (Value.int .i64) x.m.size, (Value.int .i64) x.m.frame, (Value.int .i64) x.m.rights, (Value.int .i64) x.a.page, (Value.int .i64) x.a.kind, Value.bool x.a.user] 28)).alloc (.cells #[(Value.int .i64) 0, (Value.int .i64) 0, (Value.int .i64) 0, (Value.int .i64) 0] 24)).alloc (.cells #[(Value.int .i64) 0, (Value.int .i64) 0, (Value.int .i64) 0, (Value.int .i64) 0] 24)
      go_upto_block 2 with fail
      generalize ((wr.alloc (.cells #[(Value.int .i64) x.kind, (Value.int .i64) x.core, (Value.int .i64) x.m.page, (Value.int .i64) x.m.size, (Value.int .i64) x.m.frame, (Value.int .i64) x.m.rights, (Value.int .i64) x.a.page, (Value.int .i64) x.a.kind, Value.bool x.a.user] 28)).alloc (.cells #[(Value.int .i64) 0, (Value.int .i64) 0, (Value.int .i64) 0, (Value.int .i64) 0] 24)).alloc (.cells #[(Value.int .i64) 0, (Value.int .i64) 0, (Value.int .i64) 0, (Value.int .i64) 0] 24) = w4 at *
      generalize wr.heap.size = X at *
      clear d0 d1 d2 d3 d4 d5 d6 d7 d8 hr hx hbl
      have hw : Has w4 (framesAt f s1 * (memAt q s2 * (blk X #[(Value.int .i64) x.kind, (Value.int .i64) x.core, (Value.int .i64) x.m.page, (Value.int .i64) x.m.size, (Value.int .i64) x.m.frame, (Value.int .i64) x.m.rights, (Value.int .i64) x.a.page, (Value.int .i64) x.a.kind, Value.bool x.a.user] 28 * (blk (X + 1) #[(Value.int .i64) 0, (Value.int .i64) 0, (Value.int .i64) 0, (Value.int .i64) 0] 24 * (blk (X + 1 + 1) #[(Value.int .i64) 0, (Value.int .i64) 0, (Value.int .i64) 0, (Value.int .i64) 0] 24 * old w w.heap.size))))) := hs4.eq (by ac_rfl)
      have HXC := Lib.hid (fun (w' : World) (o : Int) (P Q : HProp) (h : Has w' (P * (Q * (blk X #[(Value.int .i64) o, (Value.int .i64) x.core, (Value.int .i64) x.m.page, (Value.int .i64) x.m.size, (Value.int .i64) x.m.frame, (Value.int .i64) x.m.rights, (Value.int .i64) x.a.page, (Value.int .i64) x.a.kind, Value.bool x.a.user] 28 * (blk (X + 1) #[(Value.int .i64) 0, (Value.int .i64) 0, (Value.int .i64) 0, (Value.int .i64) 0] 24 * (blk (X + 1 + 1) #[(Value.int .i64) 0, (Value.int .i64) 0, (Value.int .i64) 0, (Value.int .i64) 0] 24 * old w w.heap.size)))))) => (⟨h.right.right.cell 2, h.right.right.cell 3, h.right.right.cell 4, h.right.right.cell 5⟩ :
        w'.cell? ⟨X, 2, none⟩ = some ((Value.int .i64) x.m.page) ∧ w'.cell? ⟨X, 3, none⟩ = some ((Value.int .i64) x.m.size) ∧ w'.cell? ⟨X, 4, none⟩ = some ((Value.int .i64) x.m.frame) ∧ w'.cell? ⟨X, 5, none⟩ = some ((Value.int .i64) x.m.rights)))
      have c0 := hw.right.right.cell 0
      obtain ⟨c2, c3, c4, c5⟩ := HXC.out _ _ _ _ hw
      have cl := hw.right.right.lt
      clear hs4
      go_cut [15, 16] (fun s15 s16 wx => ∃ (s1' s2' : Ms) (mp : Mp) (cd : Int), s15 = (Value.int .i64) cd ∧ s16 = (Value.int .i64) cd ∧ s1'.Ok ∧ s2'.Ok ∧ Hid (Agree s1' s2') ∧ Has wx (framesAt f s1' * (memAt q s2' * (blk X #[(Value.int .i64) x.kind, (Value.int .i64) x.core, (Value.int .i64) x.m.page, (Value.int .i64) x.m.size, (Value.int .i64) x.m.frame, (Value.int .i64) x.m.rights, (Value.int .i64) x.a.page, (Value.int .i64) x.a.kind, Value.bool x.a.user] 28 * (blk (X + 1) #[(Value.int .i64) mp.page, (Value.int .i64) mp.size, (Value.int .i64) mp.frame, (Value.int .i64) mp.rights] 24 * (blk (X + 1 + 1) #[(Value.int .i64) mp.page, (Value.int .i64) mp.size, (Value.int .i64) mp.frame, (Value.int .i64) mp.rights] 24 * old w w.heap.size))))) ∧ Ext w wx)
      case first =>
        by_cases o1 : x.kind = 1
        · as_aux_lemma =>
          --[A
          have HI1 := Lib.hid (fun R w h => insT f s1 0 x.m R w hs1 h)
          unfold InsertedT at HI1
          have HI2 := Lib.hid (fun R w h => insR q s2 0 x.m R w hs2 h)
          have hic := HAG.out.insC 0 x.m
          rw [hic] at HI1
          have HA1 := Lib.hid (HAG.out.insS 0 x.m)
          have HO2 := Lib.hid (insS_ok hs2 0 x.m)
          clear hic
          generalize insC s2 0 x.m = cd at *
          generalize insS s1 0 x.m = sA at *
          generalize insS s2 0 x.m = sB at *
          generalize x.kind = op at *
          subst o1
          have hw0 := hw.drew
          have x0 := x2.drew
          go_wp2_with fail
          go_region_held3 (fun w' => w'.cell? ⟨X, 2, none⟩ = some ((Value.int .i64) x.m.page) ∧ w'.cell? ⟨X, 3, none⟩ = some ((Value.int .i64) x.m.size) ∧ w'.cell? ⟨X, 4, none⟩ = some ((Value.int .i64) x.m.frame) ∧ w'.cell? ⟨X, 5, none⟩ = some ((Value.int .i64) x.m.rights)) (first | (with_reducible exact HXC.out _ _ _ _ hw0) | (with_reducible exact HXC.out _ _ _ _ h5) | (with_reducible exact HXC.out _ _ _ _ h6.p2) | go_keep) (first | (go_at_call 13; first | ((with_reducible refine (HI1.out _ _ hw0).mono ?_); rintro e w5 ⟨s5, hs5, ha5, rfl, h5, x5⟩) | ((with_reducible refine (HI1.out _ _ h6.p2).mono ?_); rintro e w5 ⟨s5, hs5, ha5, rfl, h5, x5⟩)) | (go_at_call 14; first | ((with_reducible refine (HI2.out _ _ hw0.p2).mono ?_); rintro e w6 ⟨rfl, h6, x6⟩) | ((with_reducible refine (HI2.out _ _ h5.p2).mono ?_); rintro e w6 ⟨rfl, h6, x6⟩)))
          all_goals
            go_wp2_with fail
            go_meet
            case rel => first | exact ⟨s5, sB, Mp.zero, cd, rfl, rfl, hs5, HO2.out, Lib.hid (ha5.trans HA1.out), h6.p2, (x0.trans x5).trans x6⟩ | exact ⟨s5, sB, Mp.zero, cd, rfl, rfl, hs5, HO2.out, Lib.hid (ha5.trans HA1.out), h5, (x0.trans x6).trans x5⟩
          --A]
        by_cases o2 : x.kind = 2
        · as_aux_lemma =>
          --[B
          have HR1 := Lib.hid (fun R w h => remT f s1 0 x.m.page R w hs1 h)
          have HR2 := Lib.hid (fun R w h => remR q s2 0 x.m.page R w hs2 h)
          unfold Removed at HR1
          unfold RemovedR at HR2
          obtain ⟨ag, eg⟩ := HAG.out.rem 0 x.m.page
          have ec := HAG.out.findC 0 x.m.page
          have em := HAG.out.findM 0 x.m.page
          rw [ec, em, eg] at HR1
          have HO1 := Lib.hid (remS_ok hs1 0 x.m.page)
          have HO2 := Lib.hid (remS_ok hs2 0 x.m.page)
          have HA1 := Lib.hid ag
          clear ec em ag eg
          generalize findC s2 0 x.m.page = cd at *
          generalize findM s2 0 x.m.page = mp at *
          generalize remG s2 0 x.m.page = g at *
          generalize remS s1 0 x.m.page = sA at *
          generalize remS s2 0 x.m.page = sB at *
          generalize x.kind = op at *
          subst o2
          go_wp2_with fail
          refine (HR1.out _ _ hw).mono ?_; rintro e w5 ⟨G, gn, gc, rfl, h5, x5⟩
          have h6 : Has w5 (blk (X + 1) #[(Value.int .i64) 0, (Value.int .i64) 0, (Value.int .i64) 0, (Value.int .i64) 0] 24 * (blk X #[(Value.int .i64) 2, (Value.int .i64) x.core, (Value.int .i64) x.m.page, (Value.int .i64) x.m.size, (Value.int .i64) x.m.frame, (Value.int .i64) x.m.rights, (Value.int .i64) x.a.page, (Value.int .i64) x.a.kind, Value.bool x.a.user] 28 * (memAt q s2 * (framesAt f sA * (irow (.slice G gn gc) g * (blk (X + 1 + 1) #[(Value.int .i64) 0, (Value.int .i64) 0, (Value.int .i64) 0, (Value.int .i64) 0] 24 * old w w.heap.size)))))) := h5.eq (by ac_rfl)
          have x6 := x2.trans x5
          clear c0 c2 c3 c4 c5 cl hw x2 h5 x5 HR1
          obtain ⟨g0, g1, g2, g3⟩ := h6.frees4
          obtain ⟨z0, z1, z2, z3⟩ := h6.cells4
          have gl := h6.lt
          have h7 := h6.set4 ((Value.int .i64) mp.page) ((Value.int .i64) mp.size) ((Value.int .i64) mp.frame) ((Value.int .i64) mp.rights)
          have x7 := (((x6.set ⟨X + 1, 0, none⟩ ((Value.int .i64) mp.page)).set ⟨X + 1, 1, none⟩ ((Value.int .i64) mp.size)).set ⟨X + 1, 2, none⟩ ((Value.int .i64) mp.frame)).set ⟨X + 1, 3, none⟩ ((Value.int .i64) mp.rights)
          have c2 := h6.right.cell 2
          have cl := h6.right.lt
          go_upto_region 20 with fail
          generalize (((w5.setCell ⟨X + 1, 0, none⟩ ((Value.int .i64) mp.page)).setCell ⟨X + 1, 1, none⟩ ((Value.int .i64) mp.size)).setCell ⟨X + 1, 2, none⟩ ((Value.int .i64) mp.frame)).setCell ⟨X + 1, 3, none⟩ ((Value.int .i64) mp.rights) = w7 at *
          clear h6 x6 g0 g1 g2 g3 z0 z1 z2 z3 gl c2 cl
          have c2 := h7.right.cell 2
          have cl := h7.right.lt
          have h8 : Has w7 (memAt q s2 * (framesAt f sA * (blk X #[(Value.int .i64) 2, (Value.int .i64) x.core, (Value.int .i64) x.m.page, (Value.int .i64) x.m.size, (Value.int .i64) x.m.frame, (Value.int .i64) x.m.rights, (Value.int .i64) x.a.page, (Value.int .i64) x.a.kind, Value.bool x.a.user] 28 * (blk (X + 1) #[(Value.int .i64) mp.page, (Value.int .i64) mp.size, (Value.int .i64) mp.frame, (Value.int .i64) mp.rights] 24 * (irow (.slice G gn gc) g * (blk (X + 1 + 1) #[(Value.int .i64) 0, (Value.int .i64) 0, (Value.int .i64) 0, (Value.int .i64) 0] 24 * old w w.heap.size)))))) := h7.eq (by ac_rfl)
          go_wp2_with fail
          refine (HR2.out _ _ h8).mono ?_; rintro e w9 ⟨H, hn, hc, rfl, h9, x9⟩
          have h10 : Has w9 (blk (X + 1 + 1) #[(Value.int .i64) 0, (Value.int .i64) 0, (Value.int .i64) 0, (Value.int .i64) 0] 24 * (framesAt f sA * (memAt q sB * (blk X #[(Value.int .i64) 2, (Value.int .i64) x.core, (Value.int .i64) x.m.page, (Value.int .i64) x.m.size, (Value.int .i64) x.m.frame, (Value.int .i64) x.m.rights, (Value.int .i64) x.a.page, (Value.int .i64) x.a.kind, Value.bool x.a.user] 28 * (blk (X + 1) #[(Value.int .i64) mp.page, (Value.int .i64) mp.size, (Value.int .i64) mp.frame, (Value.int .i64) mp.rights] 24 * (irow (.slice G gn gc) g * (irow (.slice H hn hc) g * old w w.heap.size))))))) := h9.eq (by ac_rfl)
          have x10 := x7.trans x9
          clear c2 cl h7 x7 h8 h9 x9 HR2
          obtain ⟨g0, g1, g2, g3⟩ := h10.frees4
          obtain ⟨z0, z1, z2, z3⟩ := h10.cells4
          have gl := h10.lt
          have h11 := h10.set4 ((Value.int .i64) mp.page) ((Value.int .i64) mp.size) ((Value.int .i64) mp.frame) ((Value.int .i64) mp.rights)
          have x11 := (((x10.set ⟨X + 1 + 1, 0, none⟩ ((Value.int .i64) mp.page)).set ⟨X + 1 + 1, 1, none⟩ ((Value.int .i64) mp.size)).set ⟨X + 1 + 1, 2, none⟩ ((Value.int .i64) mp.frame)).set ⟨X + 1 + 1, 3, none⟩ ((Value.int .i64) mp.rights)
          go_upto_region 21 with fail
          generalize (((w9.setCell ⟨X + 1 + 1, 0, none⟩ ((Value.int .i64) mp.page)).setCell ⟨X + 1 + 1, 1, none⟩ ((Value.int .i64) mp.size)).setCell ⟨X + 1 + 1, 2, none⟩ ((Value.int .i64) mp.frame)).setCell ⟨X + 1 + 1, 3, none⟩ ((Value.int .i64) mp.rights) = w11 at *
          clear h10 x10 g0 g1 g2 g3 z0 z1 z2 z3 gl
          have h12 : Has w11 (irow (.slice G gn gc) g * (irow (.slice H hn hc) g * (framesAt f sA * (memAt q sB * (blk X #[(Value.int .i64) 2, (Value.int .i64) x.core, (Value.int .i64) x.m.page, (Value.int .i64) x.m.size, (Value.int .i64) x.m.frame, (Value.int .i64) x.m.rights, (Value.int .i64) x.a.page, (Value.int .i64) x.a.kind, Value.bool x.a.user] 28 * (blk (X + 1) #[(Value.int .i64) mp.page, (Value.int .i64) mp.size, (Value.int .i64) mp.frame, (Value.int .i64) mp.rights] 24 * (blk (X + 1 + 1) #[(Value.int .i64) mp.page, (Value.int .i64) mp.size, (Value.int .i64) mp.frame, (Value.int .i64) mp.rights] 24 * old w w.heap.size))))))) := h11.eq (by ac_rfl)
          clear h11
          have hgl := Lib.hid (irow_len h12)
          have hgs := irow_small h12
          go_wp2_with fail
          refine (sameInts_any g G H gn gc hn hc _ _ h12).mono ?_; rintro e w13 ⟨rfl, b13⟩
          have h14 : Has w13 (framesAt f sA * (memAt q sB * (irow (.slice G gn gc) g * (blk X #[(Value.int .i64) 2, (Value.int .i64) x.core, (Value.int .i64) x.m.page, (Value.int .i64) x.m.size, (Value.int .i64) x.m.frame, (Value.int .i64) x.m.rights, (Value.int .i64) x.a.page, (Value.int .i64) x.a.kind, Value.bool x.a.user] 28 * (blk (X + 1) #[(Value.int .i64) mp.page, (Value.int .i64) mp.size, (Value.int .i64) mp.frame, (Value.int .i64) mp.rights] 24 * (blk (X + 1 + 1) #[(Value.int .i64) mp.page, (Value.int .i64) mp.size, (Value.int .i64) mp.frame, (Value.int .i64) mp.rights] 24 * old w w.heap.size)))))) := ((h12.below b13).eq (Q := irow (.slice H hn hc) g * (framesAt f sA * (memAt q sB * (irow (.slice G gn gc) g * (blk X #[(Value.int .i64) 2, (Value.int .i64) x.core, (Value.int .i64) x.m.page, (Value.int .i64) x.m.size, (Value.int .i64) x.m.frame, (Value.int .i64) x.m.rights, (Value.int .i64) x.a.page, (Value.int .i64) x.a.kind, Value.bool x.a.user] 28 * (blk (X + 1) #[(Value.int .i64) mp.page, (Value.int .i64) mp.size, (Value.int .i64) mp.frame, (Value.int .i64) mp.rights] 24 * (blk (X + 1 + 1) #[(Value.int .i64) mp.page, (Value.int .i64) mp.size, (Value.int .i64) mp.frame, (Value.int .i64) mp.rights] 24 * old w w.heap.size))))))) (by ac_rfl)).right
          have x14 := x11.below b13
          clear h12 x11 b13
          go_wp2_with fail
          go_loopw [19] (fun t wz => ∃ (k : Nat) (sa sb : Ms), k ≤ gn ∧ t = (Value.int .i64) k ∧ sa.Ok ∧ sb.Ok ∧ Hid (Agree sa sb) ∧ Has wz (framesAt f sa * (memAt q sb * (irow (.slice G gn gc) g * (blk X #[(Value.int .i64) 2, (Value.int .i64) x.core, (Value.int .i64) x.m.page, (Value.int .i64) x.m.size, (Value.int .i64) x.m.frame, (Value.int .i64) x.m.rights, (Value.int .i64) x.a.page, (Value.int .i64) x.a.kind, Value.bool x.a.user] 28 * (blk (X + 1) #[(Value.int .i64) mp.page, (Value.int .i64) mp.size, (Value.int .i64) mp.frame, (Value.int .i64) mp.rights] 24 * (blk (X + 1 + 1) #[(Value.int .i64) mp.page, (Value.int .i64) mp.size, (Value.int .i64) mp.frame, (Value.int .i64) mp.rights] 24 * old w w.heap.size)))))) ∧ Ext w wz) (fun t _ => gn - (intOf t).toNat)
          case atStart => exact ⟨0, sA, sB, by omega, rfl, HO1.out, HO2.out, HA1, h14, x14⟩
          case round =>
            clear h14 x14 HO1 HO2 HA1
            obtain ⟨k, sa, sb, hk, rfl, hsa, hsb, HAB, hz, hxz⟩ := hrel
            by_cases hkl : k < gn
            · obtain ⟨bG, hG, hbG, cG⟩ := irow_at hz.right.right (k := k) (by have := hgl.out; omega)
              subst hG
              have hkg : k < g.length := by have := hgl.out; omega
              have HCG := Lib.hid (fun (w' : World) (P Q : HProp) (h : Has w' (P * (Q * (irow (.slice (some ⟨bG, 0, none⟩) gn gc) g * (blk X #[(Value.int .i64) 2, (Value.int .i64) x.core, (Value.int .i64) x.m.page, (Value.int .i64) x.m.size, (Value.int .i64) x.m.frame, (Value.int .i64) x.m.rights, (Value.int .i64) x.a.page, (Value.int .i64) x.a.kind, Value.bool x.a.user] 28 * (blk (X + 1) #[(Value.int .i64) mp.page, (Value.int .i64) mp.size, (Value.int .i64) mp.frame, (Value.int .i64) mp.rights] 24 * (blk (X + 1 + 1) #[(Value.int .i64) mp.page, (Value.int .i64) mp.size, (Value.int .i64) mp.frame, (Value.int .i64) mp.rights] 24 * old w w.heap.size))))))) => (by
                obtain ⟨b2, h2, -, h3⟩ := irow_at h.right.right (k := k) hkg
                injection h2 with h2
                injection h2 with h2
                subst h2
                exact h3 : w'.cell? ⟨bG, k, none⟩ = some ((Value.int .i64) g[k])))
              generalize g[k] = v at *
              clear hkg
              have GF := Lib.hid (fun R w h => giveF f sa v R w h hsa)
              have GM := Lib.hid (fun R w h => giveM q sb v R w h hsb)
              rw [HAB.out.has v] at GF
              have HO1 := Lib.hid (hsa.giveS v)
              have HO2 := Lib.hid (hsb.giveS v)
              have HA1 := Lib.hid (HAB.out.giveS v)
              generalize sb.has v = bb at *
              generalize sa.giveS v = sa' at *
              generalize sb.giveS v = sb' at *
              have hz0 := hz.drew
              have xz0 := hxz.drew
              go_wp2_with fail
              go_region_held3 (fun w' => w'.cell? ⟨bG, k, none⟩ = some ((Value.int .i64) v)) (first | (with_reducible exact HCG.out _ _ _ hz0) | (with_reducible exact HCG.out _ _ _ h5) | (with_reducible exact HCG.out _ _ _ h6.p2) | go_keep) (first | (go_at_call 17; first | ((with_reducible refine (GF.out _ _ hz0).mono ?_); rintro e w5 ⟨rfl, h5, x5⟩) | ((with_reducible refine (GF.out _ _ h6.p2).mono ?_); rintro e w5 ⟨rfl, h5, x5⟩)) | (go_at_call 18; first | ((with_reducible refine (GM.out _ _ hz0.p2).mono ?_); rintro e w6 ⟨rfl, h6, x6⟩) | ((with_reducible refine (GM.out _ _ h5.p2).mono ?_); rintro e w6 ⟨rfl, h6, x6⟩)))
              all_goals
                go_wp2_with fail
                go_roundw
                case rel => first | exact ⟨k + 1, sa', sb', by omega, by go_num, HO1.out, HO2.out, HA1, h6.p2, (xz0.trans x5).trans x6⟩ | exact ⟨k + 1, sa', sb', by omega, by go_num, HO1.out, HO2.out, HA1, h5, (xz0.trans x6).trans x5⟩
                case measure => simp [intOf]; omega
            · go_wp2_with fail
              go_meet
              case rel => exact ⟨sa, sb, mp, cd, rfl, rfl, hsa, hsb, HAB, (hz.eq (Q := irow (.slice G gn gc) g * (framesAt f sa * (memAt q sb * (blk X #[(Value.int .i64) 2, (Value.int .i64) x.core, (Value.int .i64) x.m.page, (Value.int .i64) x.m.size, (Value.int .i64) x.m.frame, (Value.int .i64) x.m.rights, (Value.int .i64) x.a.page, (Value.int .i64) x.a.kind, Value.bool x.a.user] 28 * (blk (X + 1) #[(Value.int .i64) mp.page, (Value.int .i64) mp.size, (Value.int .i64) mp.frame, (Value.int .i64) mp.rights] 24 * (blk (X + 1 + 1) #[(Value.int .i64) mp.page, (Value.int .i64) mp.size, (Value.int .i64) mp.frame, (Value.int .i64) mp.rights] 24 * old w w.heap.size)))))) (by ac_rfl)).right, hxz⟩
          --B]
        by_cases o3 : x.kind = 3
        · as_aux_lemma =>
          --[C
          have HP1 := Lib.hid (fun R w h => prT f s1 0 x.m.page x.m.rights R w hs1 h)
          have HP2 := Lib.hid (fun R w h => prR q s2 0 x.m.page x.m.rights R w hs2 h)
          obtain ⟨ag, ec, em⟩ := HAG.out.pr 0 x.m.page x.m.rights
          rw [ec, em] at HP1
          have HO1 := Lib.hid (prS_ok hs1 0 x.m.page x.m.rights)
          have HO2 := Lib.hid (prS_ok hs2 0 x.m.page x.m.rights)
          have HA1 := Lib.hid ag
          clear ec em ag
          generalize prC s2 0 x.m.page x.m.rights = cd at *
          generalize prM s2 0 x.m.page x.m.rights = mp at *
          generalize prS s1 0 x.m.page x.m.rights = sA at *
          generalize prS s2 0 x.m.page x.m.rights = sB at *
          generalize x.kind = op at *
          subst o3
          go_wp2_with fail
          refine (HP1.out _ _ hw).mono ?_; rintro e w5 ⟨rfl, h5, x5⟩
          have h6 : Has w5 (blk (X + 1) #[(Value.int .i64) 0, (Value.int .i64) 0, (Value.int .i64) 0, (Value.int .i64) 0] 24 * (blk X #[(Value.int .i64) 3, (Value.int .i64) x.core, (Value.int .i64) x.m.page, (Value.int .i64) x.m.size, (Value.int .i64) x.m.frame, (Value.int .i64) x.m.rights, (Value.int .i64) x.a.page, (Value.int .i64) x.a.kind, Value.bool x.a.user] 28 * (memAt q s2 * (framesAt f sA * (blk (X + 1 + 1) #[(Value.int .i64) 0, (Value.int .i64) 0, (Value.int .i64) 0, (Value.int .i64) 0] 24 * old w w.heap.size))))) := h5.eq (by ac_rfl)
          have x6 := x2.trans x5
          clear c0 c2 c3 c4 c5 cl hw x2 h5 x5 HP1
          obtain ⟨g0, g1, g2, g3⟩ := h6.frees4
          obtain ⟨z0, z1, z2, z3⟩ := h6.cells4
          have gl := h6.lt
          have h7 := h6.set4 ((Value.int .i64) mp.page) ((Value.int .i64) mp.size) ((Value.int .i64) mp.frame) ((Value.int .i64) mp.rights)
          have x7 := (((x6.set ⟨X + 1, 0, none⟩ ((Value.int .i64) mp.page)).set ⟨X + 1, 1, none⟩ ((Value.int .i64) mp.size)).set ⟨X + 1, 2, none⟩ ((Value.int .i64) mp.frame)).set ⟨X + 1, 3, none⟩ ((Value.int .i64) mp.rights)
          have c2 := h6.right.cell 2
          have c5 := h6.right.cell 5
          have cl := h6.right.lt
          go_upto_region 30 with fail
          generalize (((w5.setCell ⟨X + 1, 0, none⟩ ((Value.int .i64) mp.page)).setCell ⟨X + 1, 1, none⟩ ((Value.int .i64) mp.size)).setCell ⟨X + 1, 2, none⟩ ((Value.int .i64) mp.frame)).setCell ⟨X + 1, 3, none⟩ ((Value.int .i64) mp.rights) = w7 at *
          clear h6 x6 g0 g1 g2 g3 z0 z1 z2 z3 gl c2 c5 cl
          have c2 := h7.right.cell 2
          have c5 := h7.right.cell 5
          have cl := h7.right.lt
          have h8 : Has w7 (memAt q s2 * (framesAt f sA * (blk X #[(Value.int .i64) 3, (Value.int .i64) x.core, (Value.int .i64) x.m.page, (Value.int .i64) x.m.size, (Value.int .i64) x.m.frame, (Value.int .i64) x.m.rights, (Value.int .i64) x.a.page, (Value.int .i64) x.a.kind, Value.bool x.a.user] 28 * (blk (X + 1) #[(Value.int .i64) mp.page, (Value.int .i64) mp.size, (Value.int .i64) mp.frame, (Value.int .i64) mp.rights] 24 * (blk (X + 1 + 1) #[(Value.int .i64) 0, (Value.int .i64) 0, (Value.int .i64) 0, (Value.int .i64) 0] 24 * old w w.heap.size))))) := h7.eq (by ac_rfl)
          go_wp2_with fail
          refine (HP2.out _ _ h8).mono ?_; rintro e w9 ⟨rfl, h9, x9⟩
          have h10 : Has w9 (blk (X + 1 + 1) #[(Value.int .i64) 0, (Value.int .i64) 0, (Value.int .i64) 0, (Value.int .i64) 0] 24 * (framesAt f sA * (memAt q sB * (blk X #[(Value.int .i64) 3, (Value.int .i64) x.core, (Value.int .i64) x.m.page, (Value.int .i64) x.m.size, (Value.int .i64) x.m.frame, (Value.int .i64) x.m.rights, (Value.int .i64) x.a.page, (Value.int .i64) x.a.kind, Value.bool x.a.user] 28 * (blk (X + 1) #[(Value.int .i64) mp.page, (Value.int .i64) mp.size, (Value.int .i64) mp.frame, (Value.int .i64) mp.rights] 24 * old w w.heap.size))))) := h9.eq (by ac_rfl)
          have x10 := x7.trans x9
          clear c2 c5 cl h7 x7 h8 h9 x9 HP2
          obtain ⟨g0, g1, g2, g3⟩ := h10.frees4
          obtain ⟨z0, z1, z2, z3⟩ := h10.cells4
          have gl := h10.lt
          go_wp2_with fail
          go_meet
          case rel => exact ⟨sA, sB, mp, cd, rfl, rfl, HO1.out, HO2.out, HA1, (h10.set4 ((Value.int .i64) mp.page) ((Value.int .i64) mp.size) ((Value.int .i64) mp.frame) ((Value.int .i64) mp.rights)).eq (by ac_rfl), (((x10.set _ _).set _ _).set _ _).set _ _⟩
          --C]
        go_wp2_with fail
        go_meet
        case rel => exact ⟨s1, s2, Mp.zero, 0, rfl, rfl, hs1, hs2, HAG, hw, x2⟩
      case rest =>
        --[D
        clear c0 c2 c3 c4 c5 cl hw x2 hs1 hs2 HAG
        obtain ⟨sA, sB, mp, cd, rfl, rfl, hsA, hsB, HAG, hw, x2⟩ := hcut
        have HF1 := Lib.hid (fun R w h => freeF f sA R w h)
        have HF2 := Lib.hid (fun R w h => freeM q sB R w h hsB)
        have HT1 := Lib.hid (fun R w h => findTb f sA 0 x.a.page R w hsA h)
        have HT2 := Lib.hid (fun R w h => findIn_any q sB 0 x.a.page R w hsB h)
        rw [HAG.out.fr] at HF1
        rw [HAG.out.findC, HAG.out.findM, HAG.out.findE] at HT1
        generalize sB.frees.length = nf at *
        generalize findC sB 0 x.a.page = cf at *
        generalize findM sB 0 x.a.page = fm at *
        generalize findE sB 0 x.a.page = fe at *
        unfold enV Mp.val at HT1 HT2
        have h0 : Has _ (blk (X + 1) #[(Value.int .i64) mp.page, (Value.int .i64) mp.size, (Value.int .i64) mp.frame, (Value.int .i64) mp.rights] 24 * (blk (X + 1 + 1) #[(Value.int .i64) mp.page, (Value.int .i64) mp.size, (Value.int .i64) mp.frame, (Value.int .i64) mp.rights] 24 * (framesAt f sA * (memAt q sB * (blk X #[(Value.int .i64) x.kind, (Value.int .i64) x.core, (Value.int .i64) x.m.page, (Value.int .i64) x.m.size, (Value.int .i64) x.m.frame, (Value.int .i64) x.m.rights, (Value.int .i64) x.a.page, (Value.int .i64) x.a.kind, Value.bool x.a.user] 28 * old w w.heap.size))))) := hw.eq (by ac_rfl)
        obtain ⟨z0, z1, z2, z3⟩ := h0.cells4
        obtain ⟨y0, y1, y2, y3⟩ := h0.right.cells4
        have zl := h0.lt
        have yl := h0.right.lt
        clear h0
        go_wp2_with (go_at_call 25; refine (HF1.out _ _ hw).mono ?_; rintro e w' ⟨rfl, rfl⟩)
        refine (HF2.out _ _ hw.p2).mono ?_; rintro e w5 ⟨rfl, b5⟩
        have h5 := hw.below b5
        have x5 := x2.below b5
        clear hw x2 b5 z0 z1 z2 z3 y0 y1 y2 y3 zl yl HF1 HF2
        have c6 := h5.right.right.cell 6
        have cl := h5.right.right.lt
        go_upto_region 33 with fail
        go_wp2_with fail
        refine (HT1.out _ _ h5).mono ?_; rintro e w6 ⟨rfl, b6⟩
        have h6 := (h5.below b6).new #[Value.bool false, Value.bool false, (Value.int .i64) 0, Value.bool false, Value.bool false, (Value.int .i64) 0] 50
        have x6 := (x5.below b6).alloc (.cells #[Value.bool false, Value.bool false, (Value.int .i64) 0, Value.bool false, Value.bool false, (Value.int .i64) 0] 50)
        clear h5 x5 b6 c6 cl
        iterate 16 (first | go_values | go_skip | go_guarded | go_step | go_upon | go_simp)
        have h7 : Has _ (blk (X + 1) #[(Value.int .i64) mp.page, (Value.int .i64) mp.size, (Value.int .i64) mp.frame, (Value.int .i64) mp.rights] 24 * (blk w6.heap.size #[Value.bool false, Value.bool false, (Value.int .i64) 0, Value.bool false, Value.bool false, (Value.int .i64) 0] 50 * (framesAt f sA * (memAt q sB * (blk X #[(Value.int .i64) x.kind, (Value.int .i64) x.core, (Value.int .i64) x.m.page, (Value.int .i64) x.m.size, (Value.int .i64) x.m.frame, (Value.int .i64) x.m.rights, (Value.int .i64) x.a.page, (Value.int .i64) x.a.kind, Value.bool x.a.user] 28 * (blk (X + 1 + 1) #[(Value.int .i64) mp.page, (Value.int .i64) mp.size, (Value.int .i64) mp.frame, (Value.int .i64) mp.rights] 24 * old w w.heap.size)))))) := h6.eq (by ac_rfl)
        clear h6
        generalize w6.alloc (.cells #[Value.bool false, Value.bool false, (Value.int .i64) 0, Value.bool false, Value.bool false, (Value.int .i64) 0] 50) = w7 at *
        generalize w6.heap.size = E1 at *
        obtain ⟨g0, g1, g2, g3⟩ := h7.frees4
        obtain ⟨z0, z1, z2, z3⟩ := h7.cells4
        have gl := h7.lt
        have h8 := h7.set4 ((Value.int .i64) fm.page) ((Value.int .i64) fm.size) ((Value.int .i64) fm.frame) ((Value.int .i64) fm.rights)
        have x8 := ((((x6.set ⟨X + 1, 0, none⟩ ((Value.int .i64) fm.page)).set ⟨X + 1, 1, none⟩ ((Value.int .i64) fm.size)).set ⟨X + 1, 2, none⟩ ((Value.int .i64) fm.frame)).set ⟨X + 1, 3, none⟩ ((Value.int .i64) fm.rights))
        iterate 3 (first | go_values | go_skip | go_guarded | go_step | go_upon | go_simp)
        generalize ((((w7.setCell ⟨X + 1, 0, none⟩ ((Value.int .i64) fm.page)).setCell ⟨X + 1, 1, none⟩ ((Value.int .i64) fm.size)).setCell ⟨X + 1, 2, none⟩ ((Value.int .i64) fm.frame)).setCell ⟨X + 1, 3, none⟩ ((Value.int .i64) fm.rights)) = w8 at *
        clear h7 x6 g0 g1 g2 g3 z0 z1 z2 z3 gl
        have h8' : Has w8 (blk E1 #[Value.bool false, Value.bool false, (Value.int .i64) 0, Value.bool false, Value.bool false, (Value.int .i64) 0] 50 * (blk (X + 1) #[(Value.int .i64) fm.page, (Value.int .i64) fm.size, (Value.int .i64) fm.frame, (Value.int .i64) fm.rights] 24 * (framesAt f sA * (memAt q sB * (blk X #[(Value.int .i64) x.kind, (Value.int .i64) x.core, (Value.int .i64) x.m.page, (Value.int .i64) x.m.size, (Value.int .i64) x.m.frame, (Value.int .i64) x.m.rights, (Value.int .i64) x.a.page, (Value.int .i64) x.a.kind, Value.bool x.a.user] 28 * (blk (X + 1 + 1) #[(Value.int .i64) mp.page, (Value.int .i64) mp.size, (Value.int .i64) mp.frame, (Value.int .i64) mp.rights] 24 * old w w.heap.size)))))) := h8.eq (by ac_rfl)
        clear h8
        obtain ⟨k0, k1, k2, k3, k4, k5⟩ := h8'.frees6
        obtain ⟨r0, r1, r2, r3, r4, r5⟩ := h8'.cells6
        have kl := h8'.lt
        have h9 := h8'.set6 (Value.bool fe.there) (Value.bool fe.leaf) ((Value.int .i64) fe.rights) (Value.bool fe.used) (Value.bool fe.dirty) ((Value.int .i64) fe.frame)
        have x9 := ((((((x8.set ⟨E1, 0, none⟩ (Value.bool fe.there)).set ⟨E1, 1, none⟩ (Value.bool fe.leaf)).set ⟨E1, 2, none⟩ ((Value.int .i64) fe.rights)).set ⟨E1, 3, none⟩ (Value.bool fe.used)).set ⟨E1, 4, none⟩ (Value.bool fe.dirty)).set ⟨E1, 5, none⟩ ((Value.int .i64) fe.frame))
        iterate 3 (first | go_values | go_skip | go_guarded | go_step | go_upon | go_simp)
        generalize ((((((w8.setCell ⟨E1, 0, none⟩ (Value.bool fe.there)).setCell ⟨E1, 1, none⟩ (Value.bool fe.leaf)).setCell ⟨E1, 2, none⟩ ((Value.int .i64) fe.rights)).setCell ⟨E1, 3, none⟩ (Value.bool fe.used)).setCell ⟨E1, 4, none⟩ (Value.bool fe.dirty)).setCell ⟨E1, 5, none⟩ ((Value.int .i64) fe.frame)) = w9 at *
        clear h8' x8 k0 k1 k2 k3 k4 k5 r0 r1 r2 r3 r4 r5 kl
        go_upto_region 34 with fail
        have h5 : Has w9 (memAt q sB * (blk X #[(Value.int .i64) x.kind, (Value.int .i64) x.core, (Value.int .i64) x.m.page, (Value.int .i64) x.m.size, (Value.int .i64) x.m.frame, (Value.int .i64) x.m.rights, (Value.int .i64) x.a.page, (Value.int .i64) x.a.kind, Value.bool x.a.user] 28 * (framesAt f sA * (blk (X + 1) #[(Value.int .i64) fm.page, (Value.int .i64) fm.size, (Value.int .i64) fm.frame, (Value.int .i64) fm.rights] 24 * (blk E1 #[Value.bool fe.there, Value.bool fe.leaf, (Value.int .i64) fe.rights, Value.bool fe.used, Value.bool fe.dirty, (Value.int .i64) fe.frame] 50 * (blk (X + 1 + 1) #[(Value.int .i64) mp.page, (Value.int .i64) mp.size, (Value.int .i64) mp.frame, (Value.int .i64) mp.rights] 24 * old w w.heap.size)))))) := h9.eq (by ac_rfl)
        clear h9
        have c6 := h5.right.cell 6
        have cl := h5.right.lt
        go_wp2_with fail
        refine (HT2.out _ _ h5).mono ?_; rintro e w6 ⟨rfl, b6⟩
        have h6 := (h5.below b6).new #[Value.bool false, Value.bool false, (Value.int .i64) 0, Value.bool false, Value.bool false, (Value.int .i64) 0] 50
        have x6 := (x9.below b6).alloc (.cells #[Value.bool false, Value.bool false, (Value.int .i64) 0, Value.bool false, Value.bool false, (Value.int .i64) 0] 50)
        clear h5 x9 b6 c6 cl
        iterate 16 (first | go_values | go_skip | go_guarded | go_step | go_upon | go_simp)
        have h7 : Has _ (blk (X + 1 + 1) #[(Value.int .i64) mp.page, (Value.int .i64) mp.size, (Value.int .i64) mp.frame, (Value.int .i64) mp.rights] 24 * (blk w6.heap.size #[Value.bool false, Value.bool false, (Value.int .i64) 0, Value.bool false, Value.bool false, (Value.int .i64) 0] 50 * (framesAt f sA * (memAt q sB * (blk X #[(Value.int .i64) x.kind, (Value.int .i64) x.core, (Value.int .i64) x.m.page, (Value.int .i64) x.m.size, (Value.int .i64) x.m.frame, (Value.int .i64) x.m.rights, (Value.int .i64) x.a.page, (Value.int .i64) x.a.kind, Value.bool x.a.user] 28 * (blk (X + 1) #[(Value.int .i64) fm.page, (Value.int .i64) fm.size, (Value.int .i64) fm.frame, (Value.int .i64) fm.rights] 24 * (blk E1 #[Value.bool fe.there, Value.bool fe.leaf, (Value.int .i64) fe.rights, Value.bool fe.used, Value.bool fe.dirty, (Value.int .i64) fe.frame] 50 * old w w.heap.size))))))) := h6.eq (by ac_rfl)
        clear h6
        generalize w6.alloc (.cells #[Value.bool false, Value.bool false, (Value.int .i64) 0, Value.bool false, Value.bool false, (Value.int .i64) 0] 50) = w7 at *
        generalize w6.heap.size = E2 at *
        obtain ⟨g0, g1, g2, g3⟩ := h7.frees4
        obtain ⟨z0, z1, z2, z3⟩ := h7.cells4
        have gl := h7.lt
        have h8 := h7.set4 ((Value.int .i64) fm.page) ((Value.int .i64) fm.size) ((Value.int .i64) fm.frame) ((Value.int .i64) fm.rights)
        have x8 := ((((x6.set ⟨X + 1 + 1, 0, none⟩ ((Value.int .i64) fm.page)).set ⟨X + 1 + 1, 1, none⟩ ((Value.int .i64) fm.size)).set ⟨X + 1 + 1, 2, none⟩ ((Value.int .i64) fm.frame)).set ⟨X + 1 + 1, 3, none⟩ ((Value.int .i64) fm.rights))
        iterate 3 (first | go_values | go_skip | go_guarded | go_step | go_upon | go_simp)
        generalize ((((w7.setCell ⟨X + 1 + 1, 0, none⟩ ((Value.int .i64) fm.page)).setCell ⟨X + 1 + 1, 1, none⟩ ((Value.int .i64) fm.size)).setCell ⟨X + 1 + 1, 2, none⟩ ((Value.int .i64) fm.frame)).setCell ⟨X + 1 + 1, 3, none⟩ ((Value.int .i64) fm.rights)) = w8 at *
        clear h7 x6 g0 g1 g2 g3 z0 z1 z2 z3 gl
        have h8' : Has w8 (blk E2 #[Value.bool false, Value.bool false, (Value.int .i64) 0, Value.bool false, Value.bool false, (Value.int .i64) 0] 50 * (blk (X + 1 + 1) #[(Value.int .i64) fm.page, (Value.int .i64) fm.size, (Value.int .i64) fm.frame, (Value.int .i64) fm.rights] 24 * (framesAt f sA * (memAt q sB * (blk X #[(Value.int .i64) x.kind, (Value.int .i64) x.core, (Value.int .i64) x.m.page, (Value.int .i64) x.m.size, (Value.int .i64) x.m.frame, (Value.int .i64) x.m.rights, (Value.int .i64) x.a.page, (Value.int .i64) x.a.kind, Value.bool x.a.user] 28 * (blk (X + 1) #[(Value.int .i64) fm.page, (Value.int .i64) fm.size, (Value.int .i64) fm.frame, (Value.int .i64) fm.rights] 24 * (blk E1 #[Value.bool fe.there, Value.bool fe.leaf, (Value.int .i64) fe.rights, Value.bool fe.used, Value.bool fe.dirty, (Value.int .i64) fe.frame] 50 * old w w.heap.size))))))) := h8.eq (by ac_rfl)
        clear h8
        obtain ⟨k0, k1, k2, k3, k4, k5⟩ := h8'.frees6
        obtain ⟨r0, r1, r2, r3, r4, r5⟩ := h8'.cells6
        have kl := h8'.lt
        have h9 := h8'.set6 (Value.bool fe.there) (Value.bool fe.leaf) ((Value.int .i64) fe.rights) (Value.bool fe.used) (Value.bool fe.dirty) ((Value.int .i64) fe.frame)
        have x9 := ((((((x8.set ⟨E2, 0, none⟩ (Value.bool fe.there)).set ⟨E2, 1, none⟩ (Value.bool fe.leaf)).set ⟨E2, 2, none⟩ ((Value.int .i64) fe.rights)).set ⟨E2, 3, none⟩ (Value.bool fe.used)).set ⟨E2, 4, none⟩ (Value.bool fe.dirty)).set ⟨E2, 5, none⟩ ((Value.int .i64) fe.frame))
        iterate 3 (first | go_values | go_skip | go_guarded | go_step | go_upon | go_simp)
        generalize ((((((w8.setCell ⟨E2, 0, none⟩ (Value.bool fe.there)).setCell ⟨E2, 1, none⟩ (Value.bool fe.leaf)).setCell ⟨E2, 2, none⟩ ((Value.int .i64) fe.rights)).setCell ⟨E2, 3, none⟩ (Value.bool fe.used)).setCell ⟨E2, 4, none⟩ (Value.bool fe.dirty)).setCell ⟨E2, 5, none⟩ ((Value.int .i64) fe.frame)) = w9 at *
        clear h8' x8 k0 k1 k2 k3 k4 k5 r0 r1 r2 r3 r4 r5 kl
        go_upto_region 35 with fail
        have hA : Has w9 (blk (X + 1) #[(Value.int .i64) fm.page, (Value.int .i64) fm.size, (Value.int .i64) fm.frame, (Value.int .i64) fm.rights] 24 * (blk (X + 1 + 1) #[(Value.int .i64) fm.page, (Value.int .i64) fm.size, (Value.int .i64) fm.frame, (Value.int .i64) fm.rights] 24 * (blk E1 #[Value.bool fe.there, Value.bool fe.leaf, (Value.int .i64) fe.rights, Value.bool fe.used, Value.bool fe.dirty, (Value.int .i64) fe.frame] 50 * (blk E2 #[Value.bool fe.there, Value.bool fe.leaf, (Value.int .i64) fe.rights, Value.bool fe.used, Value.bool fe.dirty, (Value.int .i64) fe.frame] 50 * (framesAt f sA * (memAt q sB * (blk X #[(Value.int .i64) x.kind, (Value.int .i64) x.core, (Value.int .i64) x.m.page, (Value.int .i64) x.m.size, (Value.int .i64) x.m.frame, (Value.int .i64) x.m.rights, (Value.int .i64) x.a.page, (Value.int .i64) x.a.kind, Value.bool x.a.user] 28 * old w w.heap.size))))))) := h9.eq (by ac_rfl)
        clear h9
        obtain ⟨z0, z1, z2, z3⟩ := hA.cells4
        obtain ⟨y0, y1, y2, y3⟩ := hA.right.cells4
        obtain ⟨k0, k1, k2, k3, k4, k5⟩ := hA.right.right.cells6
        obtain ⟨r0, r1, r2, r3, r4, r5⟩ := hA.right.right.right.cells6
        have zl := hA.lt
        have yl := hA.right.lt
        have kl := hA.right.right.lt
        have rl := hA.right.right.right.lt
        go_wp2_with fail
        go_roundw
        case rel => exact ⟨i + 1, sA, sB, by omega, by go_num, hsA, hsB, HAG, (hA.right.right.right.right).eq (Q := blk X #[(Value.int .i64) x.kind, (Value.int .i64) x.core, (Value.int .i64) x.m.page, (Value.int .i64) x.m.size, (Value.int .i64) x.m.frame, (Value.int .i64) x.m.rights, (Value.int .i64) x.a.page, (Value.int .i64) x.a.kind, Value.bool x.a.user] 28 * (framesAt f sA * (memAt q sB * old w w.heap.size))) (by ac_rfl) |>.right, x9⟩
        case measure => simp [intOf]; omega
        --D]
    · obtain rfl : i = m := by omega
      have SW := Lib.hid (fun R w h => sameWords_any f q s1 s2 HAG.out hs1.small R w h)
      go_wp2_with fail
      refine (SW.out _ _ hr).mono ?_; rintro e w9 ⟨rfl, rfl⟩
      go_wp2_with fail
      go_ret
      exact ⟨rfl, below_of1 hr.right.right hx⟩
end Go.Proofs.Ytegkimecdonfgaa
