/- The law CoreDoes: the walk. -/
import Derived.Test.YtndhgomikpokpaaCoreP
import Derived.Test.YtndhgomikpokpaaCorBegun
import Derived.Test.YtndhgomikpokpaaSameL
import Derived.Test.YtndhgomikpokpaaSameW
import Derived.Test.YtndhgomikpokpaaFrame3
namespace Go.Proofs.Ytndhgomikpokpaa
open Go.RowKit
set_option maxRecDepth 100000

set_option maxHeartbeats 8000000 in
theorem coreDoes_walk (N T : Int) (A : Option Addr) (n c : Nat) (l : List Int) (B : Option Addr) (m d : Nat) (L : List Cst) (w : World) (_ : i64 N) (_ : i64 T) (h : Arr w A n 1 (l.map cellsU)) (hok : ∀ x ∈ l, u64 x)
    (h2 : Arr w B m 11 (L.map Cst.cells)) (hok2 : ∀ x ∈ L, x.ok) :
    Calls Try.prog 13 #[(Value.int .i64) N, (Value.int .i64) T, .slice A n c, .slice B m d] w (Pure (Value.bool true) w) := by
  have hm := h.2.1
  have hm2 := h2.2.1
  have hA := Lib.hid h
  have hB := Lib.hid h2
  have hL := Lib.hid (show L.length = m by simpa using h2.1)
  clear h h2
  have h0 := has_old w
  have HB := Lib.hid (coreBegun_any w)
  by_cases hN0 : N < 0
  · go_enter Try.func13, Try.ntmps13
    go_wp2_with (refine HB.out.mono ?_; rintro e w1 ⟨rfl, hb⟩)
    go_ret
    exact ⟨rfl, hb⟩
  by_cases hN1 : 128 < N
  · go_enter Try.func13, Try.ntmps13
    go_wp2_with (refine HB.out.mono ?_; rintro e w1 ⟨rfl, hb⟩)
    go_ret
    exact ⟨rfl, hb⟩
  by_cases hbig : 2000 < n
  · go_enter Try.func13, Try.ntmps13
    go_wp2_with (refine HB.out.mono ?_; rintro e w1 ⟨rfl, hb⟩)
    go_ret
    exact ⟨rfl, hb⟩
  by_cases hbig2 : 300 < m
  · go_enter Try.func13, Try.ntmps13
    go_wp2_with (refine HB.out.mono ?_; rintro e w1 ⟨rfl, hb⟩)
    go_ret
    exact ⟨rfl, hb⟩
  have hs := memS_ok (n := N) (taken := T) (ws := l) (by omega) (by omega) hok
  go_enter Try.func13, Try.ntmps13
  go_wp2_with fail
  refine HB.out.mono ?_; rintro e w1 ⟨rfl, hb⟩
  have h1 := h0.below hb
  have x1 := (Ext.refl w).below hb
  have hA1 := hA.out.old1 h1 x1
  clear h0 hb
  go_wp2_with fail
  refine (memory_any N T A n c l _ (by omega) (by omega) hA1 hok).mono ?_; rintro e w2 ⟨f, q, rfl, h2, x2⟩
  have h3 := (h1.onto' h2.a2).a1
  have x3 := x1.trans x2
  clear h1 x1 h2 x2 hA1 hA
  generalize memS N T l = s at *
  go_wp2_with fail
  refine (newC 0 _ _ h3).mono ?_; rintro e w4 ⟨b, rfl, h4, x4⟩
  have x5 := (x3.trans x4).alloc (.cells #[.slice none 0 0, Value.bool false, (Value.int .i64) 0, (Value.int .i64) 0, Value.bool false, (Value.int .i64) 0, (Value.int .i64) 0, Value.bool false, (Value.int .u64) 0] 94)
  have h5 : Has (w4.alloc (.cells #[.slice none 0 0, Value.bool false, (Value.int .i64) 0, (Value.int .i64) 0, Value.bool false, (Value.int .i64) 0, (Value.int .i64) 0, Value.bool false, (Value.int .u64) 0] 94)) (coreAt w4.heap.size [] Ck.zero * (pcAt b [] 0 Ck.zero * (framesAt f s * (memAt q s * old w w.heap.size)))) :=
    coreAt_shut (A := none) (c := 0) (Has.p2 (Has.rowONil ((h4.eq (show _ = pcAt b [] 0 Ck.zero * (framesAt f s * (memAt q s * old w w.heap.size)) by ac_rfl)).new #[.slice none 0 0, Value.bool false, (Value.int .i64) 0, (Value.int .i64) 0, Value.bool false, (Value.int .i64) 0, (Value.int .i64) 0, Value.bool false, (Value.int .u64) 0] 94)))
  generalize hc0 : w4.heap.size = c0 at h5
  have HC0 := Lib.hid hc0
  clear hc0 h3 x3 h4 x4
  go_wp2_with fail
  rw [HC0.out]
  go_loopw [13] (fun t wr => ∃ (i : Nat) (kk : Ck) (ss : Ms) (l : List Ln), i ≤ m ∧ t = (Value.int .i64) i ∧ kk.Ok ∧ ss.Ok ∧ Tl.Ok l ∧ Has wr (pcAt b l 0 kk * (framesAt f ss * (coreAt c0 l kk * (memAt q ss * old w w.heap.size)))) ∧ Ext w wr) (fun t _ => m - (intOf t).toNat)
  case atStart => exact ⟨0, Ck.zero, s, [], by omega, rfl, Ck.Ok.zero, hs, Tl.Ok.nil, h5.eq (by ac_rfl), x5⟩
  case round =>
    clear h5 x5 hs
    obtain ⟨i, kk, ss, l, hi, rfl, hkk, hss, hl, hr, hx⟩ := hrel
    by_cases hlt : i < m
    · have hil : i < L.length := by have := hL.out; omega
      obtain ⟨b', off, hb, hbl, hc⟩ := (hB.out.old1 hr.right.right.right.right hx).at_ (i := i) (xs := (L[i]).cells) (by simp [hil])
      have ho := hok2 _ (List.getElem_mem hil)
      generalize L[i] = x at hc ho
      obtain ⟨hop, hK, hI, hW, hAc, hMo⟩ := ho
      have d0 : wr.cell? ⟨b', off + i * 11, none⟩ = some ((Value.int .i64) x.op) := hc 0 _ rfl
      have d1 : wr.cell? ⟨b', off + i * 11 + 1, none⟩ = some ((Value.int .i64) x.k) := hc 1 _ rfl
      have d2 : wr.cell? ⟨b', off + i * 11 + 2, none⟩ = some ((Value.int .i64) x.i) := hc 2 _ rfl
      have d3 : wr.cell? ⟨b', off + i * 11 + 3, none⟩ = some ((Value.int .u64) x.w) := hc 3 _ rfl
      have d4 : wr.cell? ⟨b', off + i * 11 + 4, none⟩ = some ((Value.int .i64) x.a.page) := hc 4 _ rfl
      have d5 : wr.cell? ⟨b', off + i * 11 + 5, none⟩ = some ((Value.int .i64) x.a.kind) := hc 5 _ rfl
      have d6 : wr.cell? ⟨b', off + i * 11 + 6, none⟩ = some (Value.bool x.a.user) := hc 6 _ rfl
      have d7 : wr.cell? ⟨b', off + i * 11 + 7, none⟩ = some ((Value.int .i64) x.m.page) := hc 7 _ rfl
      have d8 : wr.cell? ⟨b', off + i * 11 + 8, none⟩ = some ((Value.int .i64) x.m.size) := hc 8 _ rfl
      have d9 : wr.cell? ⟨b', off + i * 11 + 9, none⟩ = some ((Value.int .i64) x.m.frame) := hc 9 _ rfl
      have d10 : wr.cell? ⟨b', off + i * 11 + 10, none⟩ = some ((Value.int .i64) x.m.rights) := hc 10 _ rfl
      clear hc
      subst hb
      have hs4 := hr.new #[(Value.int .i64) x.op, (Value.int .i64) x.k, (Value.int .i64) x.i, (Value.int .u64) x.w, (Value.int .i64) x.a.page, (Value.int .i64) x.a.kind, Value.bool x.a.user, (Value.int .i64) x.m.page, (Value.int .i64) x.m.size, (Value.int .i64) x.m.frame, (Value.int .i64) x.m.rights] 146
      have x2 := hx.alloc (.cells #[(Value.int .i64) x.op, (Value.int .i64) x.k, (Value.int .i64) x.i, (Value.int .u64) x.w, (Value.int .i64) x.a.page, (Value.int .i64) x.a.kind, Value.bool x.a.user, (Value.int .i64) x.m.page, (Value.int .i64) x.m.size, (Value.int .i64) x.m.frame, (Value.int .i64) x.m.rights] 146)
      go_upto_block 2 with fail
      generalize wr.alloc (.cells #[(Value.int .i64) x.op, (Value.int .i64) x.k, (Value.int .i64) x.i, (Value.int .u64) x.w, (Value.int .i64) x.a.page, (Value.int .i64) x.a.kind, Value.bool x.a.user, (Value.int .i64) x.m.page, (Value.int .i64) x.m.size, (Value.int .i64) x.m.frame, (Value.int .i64) x.m.rights] 146) = w4' at *
      generalize wr.heap.size = X at *
      clear d0 d1 d2 d3 d4 d5 d6 d7 d8 d9 d10 hr hx hbl
      have hw : Has w4' (pcAt b l 0 kk * (framesAt f ss * (coreAt c0 l kk * (memAt q ss * (blk X #[(Value.int .i64) x.op, (Value.int .i64) x.k, (Value.int .i64) x.i, (Value.int .u64) x.w, (Value.int .i64) x.a.page, (Value.int .i64) x.a.kind, Value.bool x.a.user, (Value.int .i64) x.m.page, (Value.int .i64) x.m.size, (Value.int .i64) x.m.frame, (Value.int .i64) x.m.rights] 146 * old w w.heap.size))))) := hs4.eq (by ac_rfl)
      have HXC := Lib.hid (fun (w' : World) (o : Int) (P : HProp) (h : Has w' (P * (blk X #[(Value.int .i64) o, (Value.int .i64) x.k, (Value.int .i64) x.i, (Value.int .u64) x.w, (Value.int .i64) x.a.page, (Value.int .i64) x.a.kind, Value.bool x.a.user, (Value.int .i64) x.m.page, (Value.int .i64) x.m.size, (Value.int .i64) x.m.frame, (Value.int .i64) x.m.rights] 146 * old w w.heap.size))) => (⟨h.right.cell 0, h.right.cell 1, h.right.cell 2, h.right.cell 3, h.right.cell 4, h.right.cell 5, h.right.cell 6, h.right.cell 7, h.right.cell 8, h.right.cell 9, h.right.cell 10, h.right.lt⟩ :
        w'.cell? ⟨X, 0, none⟩ = some ((Value.int .i64) o) ∧ w'.cell? ⟨X, 1, none⟩ = some ((Value.int .i64) x.k) ∧ w'.cell? ⟨X, 2, none⟩ = some ((Value.int .i64) x.i) ∧ w'.cell? ⟨X, 3, none⟩ = some ((Value.int .u64) x.w) ∧ w'.cell? ⟨X, 4, none⟩ = some ((Value.int .i64) x.a.page) ∧ w'.cell? ⟨X, 5, none⟩ = some ((Value.int .i64) x.a.kind) ∧ w'.cell? ⟨X, 6, none⟩ = some (Value.bool x.a.user) ∧ w'.cell? ⟨X, 7, none⟩ = some ((Value.int .i64) x.m.page) ∧ w'.cell? ⟨X, 8, none⟩ = some ((Value.int .i64) x.m.size) ∧ w'.cell? ⟨X, 9, none⟩ = some ((Value.int .i64) x.m.frame) ∧ w'.cell? ⟨X, 10, none⟩ = some ((Value.int .i64) x.m.rights) ∧ X < w'.heap.size))
      obtain ⟨c1, c2, c3, c4, c5, c6, c7, c8, c9, c10, c11, cl⟩ := HXC.out _ _ _ (hw.eq (show _ = (pcAt b l 0 kk * (framesAt f ss * (coreAt c0 l kk * memAt q ss))) * (blk X #[(Value.int .i64) x.op, (Value.int .i64) x.k, (Value.int .i64) x.i, (Value.int .u64) x.w, (Value.int .i64) x.a.page, (Value.int .i64) x.a.kind, Value.bool x.a.user, (Value.int .i64) x.m.page, (Value.int .i64) x.m.size, (Value.int .i64) x.m.frame, (Value.int .i64) x.m.rights] 146 * old w w.heap.size) by ac_rfl))
      clear hs4
      go_cut [] (fun wx => ∃ (k' : Ck) (s' : Ms) (l' : List Ln), k'.Ok ∧ s'.Ok ∧ Tl.Ok l' ∧ Has wx (pcAt b l' 0 k' * (framesAt f s' * (coreAt c0 l' k' * (memAt q s' * (blk X #[(Value.int .i64) x.op, (Value.int .i64) x.k, (Value.int .i64) x.i, (Value.int .u64) x.w, (Value.int .i64) x.a.page, (Value.int .i64) x.a.kind, Value.bool x.a.user, (Value.int .i64) x.m.page, (Value.int .i64) x.m.size, (Value.int .i64) x.m.frame, (Value.int .i64) x.m.rights] 146 * old w w.heap.size))))) ∧ Ext w wx)
      case first =>
        by_cases o0 : x.op = 0
        · as_aux_lemma =>
          --[A
          have HB1 := Lib.hid (fun R w h => beginC b l 0 kk x.a hl hAc.1 R w h)
          have HB2 := Lib.hid (fun R w h => beginR c0 l 0 kk x.a hl hAc.1 R w h)
          have HOK := Lib.hid (coreB_ok (l := l) (root := 0) (a := x.a) hkk)
          generalize coreB l 0 kk x.a = p at *
          obtain ⟨⟨af, afr, ari⟩, fin, code, k'⟩ := p
          dsimp only at HB1 HB2 HOK
          generalize x.op = op at *
          subst o0
          go_wp2_with fail
          refine (HB1.out _ _ hw).mono ?_; rintro e w5 ⟨rfl, h5, x5⟩
          have h6 : Has _ (coreAt c0 l kk * (blk w5.heap.size #[(Value.int .i64) af, (Value.int .i64) afr, (Value.int .i64) ari] 49 * (pcAt b l 0 k' * (framesAt f ss * (memAt q ss * (blk X #[(Value.int .i64) 0, (Value.int .i64) x.k, (Value.int .i64) x.i, (Value.int .u64) x.w, (Value.int .i64) x.a.page, (Value.int .i64) x.a.kind, Value.bool x.a.user, (Value.int .i64) x.m.page, (Value.int .i64) x.m.size, (Value.int .i64) x.m.frame, (Value.int .i64) x.m.rights] 146 * old w w.heap.size)))))) := (h5.new #[(Value.int .i64) af, (Value.int .i64) afr, (Value.int .i64) ari] 49).eq (by ac_rfl)
          have x6 := (x2.trans x5).alloc (.cells #[(Value.int .i64) af, (Value.int .i64) afr, (Value.int .i64) ari] 49)
          clear hw x2 h5 x5 HB1 c1 c2 c3 c4 c5 c6 c7 c8 c9 c10 c11 cl
          go_upto_region 16 with fail
          generalize w5.alloc (.cells #[(Value.int .i64) af, (Value.int .i64) afr, (Value.int .i64) ari] 49) = w6 at *
          generalize w5.heap.size = Y at *
          obtain ⟨c1, c2, c3, c4, c5, c6, c7, c8, c9, c10, c11, cl⟩ := HXC.out _ 0 _ (h6.eq (show _ = (coreAt c0 l kk * (blk Y #[(Value.int .i64) af, (Value.int .i64) afr, (Value.int .i64) ari] 49 * (pcAt b l 0 k' * (framesAt f ss * memAt q ss)))) * (blk X #[(Value.int .i64) 0, (Value.int .i64) x.k, (Value.int .i64) x.i, (Value.int .u64) x.w, (Value.int .i64) x.a.page, (Value.int .i64) x.a.kind, Value.bool x.a.user, (Value.int .i64) x.m.page, (Value.int .i64) x.m.size, (Value.int .i64) x.m.frame, (Value.int .i64) x.m.rights] 146 * old w w.heap.size) by ac_rfl))
          go_wp2_with fail
          refine (HB2.out _ _ h6).mono ?_; rintro e w7 ⟨rfl, h7, x7⟩
          have h8 : Has _ (blk w7.heap.size #[(Value.int .i64) af, (Value.int .i64) afr, (Value.int .i64) ari] 49 * (blk Y #[(Value.int .i64) af, (Value.int .i64) afr, (Value.int .i64) ari] 49 * (pcAt b l 0 k' * (framesAt f ss * (coreAt c0 l k' * (memAt q ss * (blk X #[(Value.int .i64) 0, (Value.int .i64) x.k, (Value.int .i64) x.i, (Value.int .u64) x.w, (Value.int .i64) x.a.page, (Value.int .i64) x.a.kind, Value.bool x.a.user, (Value.int .i64) x.m.page, (Value.int .i64) x.m.size, (Value.int .i64) x.m.frame, (Value.int .i64) x.m.rights] 146 * old w w.heap.size))))))) := (h7.new #[(Value.int .i64) af, (Value.int .i64) afr, (Value.int .i64) ari] 49).eq (by ac_rfl)
          have x8 := (x6.trans x7).alloc (.cells #[(Value.int .i64) af, (Value.int .i64) afr, (Value.int .i64) ari] 49)
          clear h6 x6 h7 x7 HB2 c1 c2 c3 c4 c5 c6 c7 c8 c9 c10 c11 cl HXC
          go_upto_region 17 with fail
          generalize w7.alloc (.cells #[(Value.int .i64) af, (Value.int .i64) afr, (Value.int .i64) ari] 49) = w8 at *
          generalize w7.heap.size = Z at *
          obtain ⟨r0, r1, r2⟩ := h8.cells3
          obtain ⟨s0, s1, s2⟩ := h8.right.cells3
          have rl := h8.lt
          have sl := h8.right.lt
          go_wp2_with fail
          go_meet
          case rel => exact ⟨k', ss, l, HOK.out, hss, hl, h8.right.right, x8⟩
          --A]
        by_cases o1 : x.op = 1
        · as_aux_lemma =>
          --[B
          have HSR := Lib.hid (fun X R w h => stepR c0 q X 0 l kk ss hss hkk R w h)
          have HSW := Lib.hid (fun R w h => stepPC b f l 0 kk ss hl hss hkk R w h)
          have HO1 := Lib.hid (hkk.step ss 0)
          have HO2 := Lib.hid (stepC_ok hss 0 kk)
          have HO3 := Lib.hid (keepL_ok hl (stepC ss 0 kk).r)
          have HPG := stepC_page ss 0 kk
          generalize stepC ss 0 kk = p at *
          obtain ⟨k', s', ⟨fin, ⟨af, afr, ari⟩, ⟨⟨p0, p1, p2, p3⟩, d⟩⟩, code⟩ := p
          dsimp only at HSR HSW HO1 HO2 HPG
          have HPU := Lib.hid (fun R w h => putRA c0 l k' ⟨⟨p0, p1, p2, p3⟩, d⟩ R w hl HPG h)
          dsimp only at HPU
          generalize x.op = op at *
          subst o1
          have h5 : Has _ (coreAt c0 l kk * (memAt q ss * (blk w4'.heap.size #[(Value.int .i64) 0, (Value.int .i64) 0, (Value.int .i64) 0, (Value.int .i64) 0, Value.bool false] 99 * (pcAt b l 0 kk * (framesAt f ss * (blk X #[(Value.int .i64) 1, (Value.int .i64) x.k, (Value.int .i64) x.i, (Value.int .u64) x.w, (Value.int .i64) x.a.page, (Value.int .i64) x.a.kind, Value.bool x.a.user, (Value.int .i64) x.m.page, (Value.int .i64) x.m.size, (Value.int .i64) x.m.frame, (Value.int .i64) x.m.rights] 146 * old w w.heap.size)))))) := (hw.new #[(Value.int .i64) 0, (Value.int .i64) 0, (Value.int .i64) 0, (Value.int .i64) 0, Value.bool false] 99).eq (by ac_rfl)
          have x5 := x2.alloc (.cells #[(Value.int .i64) 0, (Value.int .i64) 0, (Value.int .i64) 0, (Value.int .i64) 0, Value.bool false] 99)
          clear hw x2 c1 c2 c3 c4 c5 c6 c7 c8 c9 c10 c11 cl HXC hl HPG
          go_upto_region 21 with fail
          generalize w4'.alloc (.cells #[(Value.int .i64) 0, (Value.int .i64) 0, (Value.int .i64) 0, (Value.int .i64) 0, Value.bool false] 99) = w5 at *
          generalize w4'.heap.size = Y at *
          go_wp2_with fail
          refine (HSR.out _ _ _ h5).mono ?_; rintro e w6 ⟨rfl, h6, x6⟩
          have h7 : Has _ (coreAt c0 l k' * (blk w6.heap.size #[(Value.int .i64) af, (Value.int .i64) afr, (Value.int .i64) ari] 49 * (blk Y #[(Value.int .i64) p0, (Value.int .i64) p1, (Value.int .i64) p2, (Value.int .i64) p3, Value.bool d] 99 * (pcAt b l 0 kk * (framesAt f ss * (memAt q s' * (blk X #[(Value.int .i64) 1, (Value.int .i64) x.k, (Value.int .i64) x.i, (Value.int .u64) x.w, (Value.int .i64) x.a.page, (Value.int .i64) x.a.kind, Value.bool x.a.user, (Value.int .i64) x.m.page, (Value.int .i64) x.m.size, (Value.int .i64) x.m.frame, (Value.int .i64) x.m.rights] 146 * old w w.heap.size))))))) := (h6.new #[(Value.int .i64) af, (Value.int .i64) afr, (Value.int .i64) ari] 49).eq (by ac_rfl)
          have x7 := (x5.trans x6).alloc (.cells #[(Value.int .i64) af, (Value.int .i64) afr, (Value.int .i64) ari] 49)
          clear h5 h6 x5 x6 HSR
          go_upto_region 22 with fail
          generalize w6.alloc (.cells #[(Value.int .i64) af, (Value.int .i64) afr, (Value.int .i64) ari] 49) = w7 at *
          generalize w6.heap.size = Z at *
          obtain ⟨z0, z1, z2⟩ := h7.right.cells3
          have zl := h7.right.lt
          obtain ⟨y0, y1, y2, y3, y4⟩ := h7.right.right.cells5
          have yl := h7.right.right.lt
          cases fin with
          | false =>
            rw [show keepL l ⟨false, ⟨af, afr, ari⟩, ⟨⟨p0, p1, p2, p3⟩, d⟩⟩ = l from rfl] at HO3 HSW
            clear y0 y1 y2 y3 y4 HPU
            have hA : Has _ (pcAt b l 0 kk * (framesAt f ss * (blk Z #[(Value.int .i64) af, (Value.int .i64) afr, (Value.int .i64) ari] 49 * (blk Y #[(Value.int .i64) p0, (Value.int .i64) p1, (Value.int .i64) p2, (Value.int .i64) p3, Value.bool d] 99 * (coreAt c0 l k' * (memAt q s' * (blk X #[(Value.int .i64) 1, (Value.int .i64) x.k, (Value.int .i64) x.i, (Value.int .u64) x.w, (Value.int .i64) x.a.page, (Value.int .i64) x.a.kind, Value.bool x.a.user, (Value.int .i64) x.m.page, (Value.int .i64) x.m.size, (Value.int .i64) x.m.frame, (Value.int .i64) x.m.rights] 146 * old w w.heap.size))))))) := h7.eq (by ac_rfl)
            go_upto_region 24 with fail
            go_wp2_with fail
            refine (HSW.out _ _ hA).mono ?_; rintro e w8 ⟨rfl, h8, x8⟩
            have h9 : Has _ (blk w8.heap.size #[(Value.int .i64) af, (Value.int .i64) afr, (Value.int .i64) ari] 49 * (blk Z #[(Value.int .i64) af, (Value.int .i64) afr, (Value.int .i64) ari] 49 * (pcAt b l 0 k' * (framesAt f s' * (coreAt c0 l k' * (memAt q s' * (blk X #[(Value.int .i64) 1, (Value.int .i64) x.k, (Value.int .i64) x.i, (Value.int .u64) x.w, (Value.int .i64) x.a.page, (Value.int .i64) x.a.kind, Value.bool x.a.user, (Value.int .i64) x.m.page, (Value.int .i64) x.m.size, (Value.int .i64) x.m.frame, (Value.int .i64) x.m.rights] 146 * old w w.heap.size))))))) := ((h8.new #[(Value.int .i64) af, (Value.int .i64) afr, (Value.int .i64) ari] 49).right.right.right.right.right.right.right |> fun _ => (h8.new #[(Value.int .i64) af, (Value.int .i64) afr, (Value.int .i64) ari] 49).eq (show _ = blk Y #[(Value.int .i64) p0, (Value.int .i64) p1, (Value.int .i64) p2, (Value.int .i64) p3, Value.bool d] 99 * (blk w8.heap.size #[(Value.int .i64) af, (Value.int .i64) afr, (Value.int .i64) ari] 49 * (blk Z #[(Value.int .i64) af, (Value.int .i64) afr, (Value.int .i64) ari] 49 * (pcAt b l 0 k' * (framesAt f s' * (coreAt c0 l k' * (memAt q s' * (blk X #[(Value.int .i64) 1, (Value.int .i64) x.k, (Value.int .i64) x.i, (Value.int .u64) x.w, (Value.int .i64) x.a.page, (Value.int .i64) x.a.kind, Value.bool x.a.user, (Value.int .i64) x.m.page, (Value.int .i64) x.m.size, (Value.int .i64) x.m.frame, (Value.int .i64) x.m.rights] 146 * old w w.heap.size))))))) by ac_rfl)).right
            have x9 := (x7.trans x8).alloc (.cells #[(Value.int .i64) af, (Value.int .i64) afr, (Value.int .i64) ari] 49)
            clear hA h8 x7 x8 HSW
            go_upto_region 25 with fail
            generalize w8.alloc (.cells #[(Value.int .i64) af, (Value.int .i64) afr, (Value.int .i64) ari] 49) = w9 at *
            generalize w8.heap.size = V at *
            obtain ⟨r0, r1, r2⟩ := h9.cells3
            obtain ⟨s0, s1, s2⟩ := h9.right.cells3
            have rl := h9.lt
            have sl := h9.right.lt
            go_wp2_with fail
            go_meet
            case rel => exact ⟨k', s', l, HO1.out, HO2.out, HO3.out, h9.right.right, x9⟩
          | true =>
            by_cases haf : af = 0
            · have haf' : (af == 0) = true := by simpa using haf
              rw [show keepL l ⟨true, ⟨af, afr, ari⟩, ⟨⟨p0, p1, p2, p3⟩, d⟩⟩ = Tl.put l ⟨⟨p0, p1, p2, p3⟩, d⟩ from if_pos ⟨rfl, haf⟩] at HO3 HSW
              clear haf
              generalize Tl.put l ⟨⟨p0, p1, p2, p3⟩, d⟩ = lp at *
              generalize decide (check ⟨p0, p1, p2, p3⟩ = 0) = okp at *
              go_wp2_with fail
              refine (HPU.out _ _ h7).mono ?_; rintro e w10 ⟨rfl, h10, x10⟩
              have x7 := x7.trans x10
              clear h7 z0 z1 z2 zl y0 y1 y2 y3 y4 yl HPU
              have hA : Has _ (pcAt b l 0 kk * (framesAt f ss * (blk Z #[(Value.int .i64) af, (Value.int .i64) afr, (Value.int .i64) ari] 49 * (blk Y #[(Value.int .i64) p0, (Value.int .i64) p1, (Value.int .i64) p2, (Value.int .i64) p3, Value.bool d] 99 * (coreAt c0 lp k' * (memAt q s' * (blk X #[(Value.int .i64) 1, (Value.int .i64) x.k, (Value.int .i64) x.i, (Value.int .u64) x.w, (Value.int .i64) x.a.page, (Value.int .i64) x.a.kind, Value.bool x.a.user, (Value.int .i64) x.m.page, (Value.int .i64) x.m.size, (Value.int .i64) x.m.frame, (Value.int .i64) x.m.rights] 146 * old w w.heap.size))))))) := h10.eq (by ac_rfl)
              go_upto_region 24 with fail
              go_wp2_with fail
              refine (HSW.out _ _ hA).mono ?_; rintro e w8 ⟨rfl, h8, x8⟩
              have h9 : Has _ (blk w8.heap.size #[(Value.int .i64) af, (Value.int .i64) afr, (Value.int .i64) ari] 49 * (blk Z #[(Value.int .i64) af, (Value.int .i64) afr, (Value.int .i64) ari] 49 * (pcAt b lp 0 k' * (framesAt f s' * (coreAt c0 lp k' * (memAt q s' * (blk X #[(Value.int .i64) 1, (Value.int .i64) x.k, (Value.int .i64) x.i, (Value.int .u64) x.w, (Value.int .i64) x.a.page, (Value.int .i64) x.a.kind, Value.bool x.a.user, (Value.int .i64) x.m.page, (Value.int .i64) x.m.size, (Value.int .i64) x.m.frame, (Value.int .i64) x.m.rights] 146 * old w w.heap.size))))))) := ((h8.new #[(Value.int .i64) af, (Value.int .i64) afr, (Value.int .i64) ari] 49).right.right.right.right.right.right.right |> fun _ => (h8.new #[(Value.int .i64) af, (Value.int .i64) afr, (Value.int .i64) ari] 49).eq (show _ = blk Y #[(Value.int .i64) p0, (Value.int .i64) p1, (Value.int .i64) p2, (Value.int .i64) p3, Value.bool d] 99 * (blk w8.heap.size #[(Value.int .i64) af, (Value.int .i64) afr, (Value.int .i64) ari] 49 * (blk Z #[(Value.int .i64) af, (Value.int .i64) afr, (Value.int .i64) ari] 49 * (pcAt b lp 0 k' * (framesAt f s' * (coreAt c0 lp k' * (memAt q s' * (blk X #[(Value.int .i64) 1, (Value.int .i64) x.k, (Value.int .i64) x.i, (Value.int .u64) x.w, (Value.int .i64) x.a.page, (Value.int .i64) x.a.kind, Value.bool x.a.user, (Value.int .i64) x.m.page, (Value.int .i64) x.m.size, (Value.int .i64) x.m.frame, (Value.int .i64) x.m.rights] 146 * old w w.heap.size))))))) by ac_rfl)).right
              have x9 := (x7.trans x8).alloc (.cells #[(Value.int .i64) af, (Value.int .i64) afr, (Value.int .i64) ari] 49)
              clear hA h8 x7 x8 HSW
              go_upto_region 25 with fail
              generalize w8.alloc (.cells #[(Value.int .i64) af, (Value.int .i64) afr, (Value.int .i64) ari] 49) = w9 at *
              generalize w8.heap.size = V at *
              obtain ⟨r0, r1, r2⟩ := h9.cells3
              obtain ⟨s0, s1, s2⟩ := h9.right.cells3
              have rl := h9.lt
              have sl := h9.right.lt
              go_wp2_with fail
              go_meet
              case rel => exact ⟨k', s', lp, HO1.out, HO2.out, HO3.out, h9.right.right, x9⟩
            · have haf' : (af == 0) = false := by simpa using haf
              rw [show keepL l ⟨true, ⟨af, afr, ari⟩, ⟨⟨p0, p1, p2, p3⟩, d⟩⟩ = l from if_neg (by simp [haf])] at HO3 HSW
              clear y0 y1 y2 y3 y4 haf HPU
              have hA : Has _ (pcAt b l 0 kk * (framesAt f ss * (blk Z #[(Value.int .i64) af, (Value.int .i64) afr, (Value.int .i64) ari] 49 * (blk Y #[(Value.int .i64) p0, (Value.int .i64) p1, (Value.int .i64) p2, (Value.int .i64) p3, Value.bool d] 99 * (coreAt c0 l k' * (memAt q s' * (blk X #[(Value.int .i64) 1, (Value.int .i64) x.k, (Value.int .i64) x.i, (Value.int .u64) x.w, (Value.int .i64) x.a.page, (Value.int .i64) x.a.kind, Value.bool x.a.user, (Value.int .i64) x.m.page, (Value.int .i64) x.m.size, (Value.int .i64) x.m.frame, (Value.int .i64) x.m.rights] 146 * old w w.heap.size))))))) := h7.eq (by ac_rfl)
              go_upto_region 24 with fail
              go_wp2_with fail
              refine (HSW.out _ _ hA).mono ?_; rintro e w8 ⟨rfl, h8, x8⟩
              have h9 : Has _ (blk w8.heap.size #[(Value.int .i64) af, (Value.int .i64) afr, (Value.int .i64) ari] 49 * (blk Z #[(Value.int .i64) af, (Value.int .i64) afr, (Value.int .i64) ari] 49 * (pcAt b l 0 k' * (framesAt f s' * (coreAt c0 l k' * (memAt q s' * (blk X #[(Value.int .i64) 1, (Value.int .i64) x.k, (Value.int .i64) x.i, (Value.int .u64) x.w, (Value.int .i64) x.a.page, (Value.int .i64) x.a.kind, Value.bool x.a.user, (Value.int .i64) x.m.page, (Value.int .i64) x.m.size, (Value.int .i64) x.m.frame, (Value.int .i64) x.m.rights] 146 * old w w.heap.size))))))) := ((h8.new #[(Value.int .i64) af, (Value.int .i64) afr, (Value.int .i64) ari] 49).right.right.right.right.right.right.right |> fun _ => (h8.new #[(Value.int .i64) af, (Value.int .i64) afr, (Value.int .i64) ari] 49).eq (show _ = blk Y #[(Value.int .i64) p0, (Value.int .i64) p1, (Value.int .i64) p2, (Value.int .i64) p3, Value.bool d] 99 * (blk w8.heap.size #[(Value.int .i64) af, (Value.int .i64) afr, (Value.int .i64) ari] 49 * (blk Z #[(Value.int .i64) af, (Value.int .i64) afr, (Value.int .i64) ari] 49 * (pcAt b l 0 k' * (framesAt f s' * (coreAt c0 l k' * (memAt q s' * (blk X #[(Value.int .i64) 1, (Value.int .i64) x.k, (Value.int .i64) x.i, (Value.int .u64) x.w, (Value.int .i64) x.a.page, (Value.int .i64) x.a.kind, Value.bool x.a.user, (Value.int .i64) x.m.page, (Value.int .i64) x.m.size, (Value.int .i64) x.m.frame, (Value.int .i64) x.m.rights] 146 * old w w.heap.size))))))) by ac_rfl)).right
              have x9 := (x7.trans x8).alloc (.cells #[(Value.int .i64) af, (Value.int .i64) afr, (Value.int .i64) ari] 49)
              clear hA h8 x7 x8 HSW
              go_upto_region 25 with fail
              generalize w8.alloc (.cells #[(Value.int .i64) af, (Value.int .i64) afr, (Value.int .i64) ari] 49) = w9 at *
              generalize w8.heap.size = V at *
              obtain ⟨r0, r1, r2⟩ := h9.cells3
              obtain ⟨s0, s1, s2⟩ := h9.right.cells3
              have rl := h9.lt
              have sl := h9.right.lt
              go_wp2_with fail
              go_meet
              case rel => exact ⟨k', s', l, HO1.out, HO2.out, HO3.out, h9.right.right, x9⟩
          --B]
        by_cases o2 : x.op = 2
        · as_aux_lemma =>
          --[C
          have HT := Lib.hid (fun R w h => toldC b l 0 kk x.m hl hMo.1 R w h)
          have HD := Lib.hid (fun R w h => dropRA c0 l kk x.m R w hl hMo.1 h)
          have HO3 := Lib.hid (hl.drop x.m)
          generalize (l.length : Int) - (Tl.drop l x.m).length = ndr at *
          generalize Tl.drop l x.m = l' at *
          have HG := Lib.hid (fun R w h => againR c0 0 l' kk R w h)
          have HO1 := Lib.hid (hkk.again 0)
          generalize x.op = op at *
          subst o2
          go_wp2_with fail
          refine (HT.out _ _ hw).mono ?_; rintro e w5 ⟨rfl, h5, x5⟩
          obtain ⟨c1', c2', c3', c4', c5', c6', c7', c8', c9', c10', c11', cl'⟩ := HXC.out _ 2 _ (h5.eq (show _ = (pcAt b l' 0 (kk.again 0) * (framesAt f ss * (coreAt c0 l kk * memAt q ss))) * (blk X #[(Value.int .i64) 2, (Value.int .i64) x.k, (Value.int .i64) x.i, (Value.int .u64) x.w, (Value.int .i64) x.a.page, (Value.int .i64) x.a.kind, Value.bool x.a.user, (Value.int .i64) x.m.page, (Value.int .i64) x.m.size, (Value.int .i64) x.m.frame, (Value.int .i64) x.m.rights] 146 * old w w.heap.size) by ac_rfl))
          have h6 : Has w5 (coreAt c0 l kk * (pcAt b l' 0 (kk.again 0) * (framesAt f ss * (memAt q ss * (blk X #[(Value.int .i64) 2, (Value.int .i64) x.k, (Value.int .i64) x.i, (Value.int .u64) x.w, (Value.int .i64) x.a.page, (Value.int .i64) x.a.kind, Value.bool x.a.user, (Value.int .i64) x.m.page, (Value.int .i64) x.m.size, (Value.int .i64) x.m.frame, (Value.int .i64) x.m.rights] 146 * old w w.heap.size))))) := h5.eq (by ac_rfl)
          have x6 := x2.trans x5
          clear c1 c2 c3 c4 c5 c6 c7 c8 c9 c10 c11 cl hw x2 h5 x5 HT
          go_wp2_with fail
          refine (HD.out _ _ h6).mono ?_; rintro e w7 ⟨rfl, h7, x7⟩
          clear c1' c2' c3' c4' c5' c6' c7' c8' c9' c10' c11' cl'
          go_wp2_with fail
          refine (HG.out _ _ h7).mono ?_; rintro e w8 ⟨rfl, h8, x8⟩
          go_wp2_with fail
          go_meet
          case rel => exact ⟨kk.again 0, ss, l', HO1.out, hss, HO3.out, h8.eq (by ac_rfl), (x6.trans x7).trans x8⟩
          --C]
        by_cases o3 : x.op = 3
        · as_aux_lemma =>
          --[D
          cases hh : ss.hasW x.k x.i with
          | false =>
            have he : storeS ss x.k x.i x.w = ss := by unfold storeS; rw [if_neg (by rw [hh]; simp)]
            have HST := Lib.hid (fun R w h => storeF f ss x.k x.i x.w R w h)
            rw [he, hh] at HST
            clear he hh
            generalize x.op = op at *
            subst o3
            go_wp2_with fail
            refine (HST.out _ _ hw.p2).mono ?_; rintro e w5 ⟨rfl, h5, x5⟩
            go_wp2_with fail
            go_meet
            case rel => exact ⟨kk, ss, l, hkk, hss, hl, h5.p2, x2.trans x5⟩
          | true =>
            obtain ⟨hk, hq0, hq8⟩ := hasW_iff.1 hh
            obtain ⟨k0, k1, _⟩ := Ms.has_iff.1 hk
            have he : storeS ss x.k x.i x.w = ss.setW x.k.toNat x.i.toNat x.w := by unfold storeS; rw [if_pos hh]
            have HST := Lib.hid (fun R w h => storeF f ss x.k x.i x.w R w h)
            rw [he, hh] at HST
            have HOK := Lib.hid (hss.setW x.k.toNat x.i.toNat hW)
            clear he hh hk hW hK hI HXC
            generalize x.k = K at *
            generalize x.i = I at *
            generalize x.w = U at *
            obtain ⟨kn, rfl⟩ := Int.eq_ofNat_of_zero_le k0
            obtain ⟨tn, rfl⟩ := Int.eq_ofNat_of_zero_le hq0
            simp only [Int.toNat_natCast] at HST HOK
            generalize x.op = op at *
            subst o3
            go_wp2_with fail
            refine (HST.out _ _ hw.p2).mono ?_; rintro e w5 ⟨rfl, h5, x5⟩
            have h6 : Has w5 (memAt q ss * (blk X #[(Value.int .i64) 3, (Value.int .i64) kn, (Value.int .i64) tn, (Value.int .u64) U, (Value.int .i64) x.a.page, (Value.int .i64) x.a.kind, Value.bool x.a.user, (Value.int .i64) x.m.page, (Value.int .i64) x.m.size, (Value.int .i64) x.m.frame, (Value.int .i64) x.m.rights] 146 * (pcAt b l 0 kk * (framesAt f (ss.setW kn tn U) * (coreAt c0 l kk * old w w.heap.size))))) := h5.eq (by ac_rfl)
            have x6 := x2.trans x5
            clear h5 x5 x2 hw HST c1 c2 c3 c4 c5 c6 c7 c8 c9 c10 c11 cl
            go_upto_region 33 with fail
            obtain ⟨gw, gi, vk, hq⟩ := memAt_open h6
            obtain ⟨q0, q1, q2, q3⟩ := hq.cells4
            have gl := hq.right.lt
            have gf := hq.right.free (kn * 8 + tn)
            have gc := mem_word hq (k := kn) (i := tn) (by omega) (by omega)
            have ql := hq.lt
            have c1 := h6.right.cell 1
            have c2 := h6.right.cell 2
            have c3 := h6.right.cell 3
            have cl := h6.right.lt
            have h7 := memAt_shut (mem_setW hq (k := kn) (i := tn) (by omega) U)
            have hqn := hq.right.ne
            clear hq h6
            go_region
            all_goals
              go_wp2_with fail
              go_meet
              case rel => exact ⟨kk, _, l, hkk, HOK.out, hl, h7.drew.eq (by ac_rfl), (x6.set _ _).drew⟩
          --D]
        by_cases o4 : x.op = 4
        · as_aux_lemma =>
          --[E
          generalize x.op = op at *
          subst o4
          clear HXC c1 c2 c3 c4 c5 c6 c7 c8 c9 c10 c11 cl
          have hq0 : Has w4' (coreAt c0 l kk * (pcAt b l 0 kk * (framesAt f ss * (memAt q ss * (blk X #[(Value.int .i64) 4, (Value.int .i64) x.k, (Value.int .i64) x.i, (Value.int .u64) x.w, (Value.int .i64) x.a.page, (Value.int .i64) x.a.kind, Value.bool x.a.user, (Value.int .i64) x.m.page, (Value.int .i64) x.m.size, (Value.int .i64) x.m.frame, (Value.int .i64) x.m.rights] 146 * old w w.heap.size))))) := hw.eq (by ac_rfl)
          have E1 := Lib.hid (fun t k R w h => evictT t k R w h)
          clear hw
          cases l with
          | nil =>
            obtain ⟨B, cb, hq⟩ := coreAt_open hq0
            have e0 : w4'.cell? ⟨c0, 0, none⟩ = some (.slice B 0 cb) := Has.cell hq 0
            have el := Has.lt hq
            obtain ⟨t, v, hp⟩ := pcAt_open hq0.p2
            obtain ⟨b0, _⟩ := hp.cells2
            have bl := hp.lt
            clear hq
            go_wp2_with (refine (E1.out _ _ _ _ hp.p2).mono ?_; rintro e w5 ⟨rfl, h5, x5⟩)
            go_meet
            case rel => exact ⟨kk, ss, [], hkk, hss, Tl.Ok.nil, (pcAt_shut (h5.eq (show _ = blk b #[.pointer (some ⟨t, 0, none⟩), .pointer (some ⟨v, 0, none⟩)] 140 * (tlbAt t [] * (walkerAt v 0 kk * (coreAt c0 [] kk * (framesAt f ss * (memAt q ss * (blk X #[(Value.int .i64) 4, (Value.int .i64) x.k, (Value.int .i64) x.i, (Value.int .u64) x.w, (Value.int .i64) x.a.page, (Value.int .i64) x.a.kind, Value.bool x.a.user, (Value.int .i64) x.m.page, (Value.int .i64) x.m.size, (Value.int .i64) x.m.frame, (Value.int .i64) x.m.rights] 146 * old w w.heap.size)))))) by rw [show Tl.evict [] = [] from rfl]; ac_rfl))).eq (by ac_rfl), x2.trans x5⟩
          | cons y k =>
            have hev : Tl.evict (y :: k) = k := rfl
            have hok := Lib.hid hl.evict
            rw [hev] at hok
            obtain ⟨B, cb, hq⟩ := coreAt_open hq0
            have hsm := (Has.rowOSmall (e := 99) (size := 5) hq.right).1
            have hcb := (Has.rowOSmall (e := 99) (size := 5) hq.right).2
            simp only [List.length_cons] at hsm hcb
            obtain ⟨g, goff, rfl⟩ : ∃ g off, B = some ⟨g, off, none⟩ := by
              obtain ⟨g, off, e, _⟩ := rrow_at hq.right (k := 0) (by simp)
              exact ⟨g, off, e⟩
            have e0 : w4'.cell? ⟨c0, 0, none⟩ = some (.slice (some ⟨g, goff, none⟩) (k.length + 1) cb) := Has.cell hq 0
            have el := Has.lt hq
            have ef := Has.free hq 0
            have ht := core_tail hq
            clear hq hq0
            have hne : ¬ ((k.length : Int) + 1 ≤ 0) := by omega
            by_cases h1 : cb = 1
            · obtain rfl : k = [] := List.eq_nil_of_length_eq_zero (by omega)
              subst h1
              rw [if_pos rfl] at ht
              have ht : Has (w4'.setCell ⟨c0, 0, none⟩ (.slice (some ⟨g, goff, none⟩) 0 0)) (coreAt c0 [] kk * (pcAt b [y] 0 kk * (framesAt f ss * (memAt q ss * (blk X #[(Value.int .i64) 4, (Value.int .i64) x.k, (Value.int .i64) x.i, (Value.int .u64) x.w, (Value.int .i64) x.a.page, (Value.int .i64) x.a.kind, Value.bool x.a.user, (Value.int .i64) x.m.page, (Value.int .i64) x.m.size, (Value.int .i64) x.m.frame, (Value.int .i64) x.m.rights] 146 * old w w.heap.size))))) := ht
              obtain ⟨t, v, hp⟩ := pcAt_open ht.p2
              obtain ⟨b0, _⟩ := hp.cells2
              have bl := hp.lt
              go_wp2_with (refine (E1.out _ _ _ _ hp.p2).mono ?_; rintro e w5 ⟨rfl, h5, x5⟩)
              go_meet
              case rel => exact ⟨kk, ss, [], hkk, hss, Tl.Ok.nil, (pcAt_shut (h5.eq (show _ = blk b #[.pointer (some ⟨t, 0, none⟩), .pointer (some ⟨v, 0, none⟩)] 140 * (tlbAt t [] * (walkerAt v 0 kk * (coreAt c0 [] kk * (framesAt f ss * (memAt q ss * (blk X #[(Value.int .i64) 4, (Value.int .i64) x.k, (Value.int .i64) x.i, (Value.int .u64) x.w, (Value.int .i64) x.a.page, (Value.int .i64) x.a.kind, Value.bool x.a.user, (Value.int .i64) x.m.page, (Value.int .i64) x.m.size, (Value.int .i64) x.m.frame, (Value.int .i64) x.m.rights] 146 * old w w.heap.size)))))) by rw [hev]; ac_rfl))).eq (by ac_rfl), (x2.set _ _).trans x5⟩
            · rw [if_neg h1] at ht
              obtain ⟨t, v, hp⟩ := pcAt_open ht.p2
              obtain ⟨b0, _⟩ := hp.cells2
              have bl := hp.lt
              go_wp2_with (refine (E1.out _ _ _ _ hp.p2).mono ?_; rintro e w5 ⟨rfl, h5, x5⟩)
              go_meet
              case rel => exact ⟨kk, ss, k, hkk, hss, hok.out, (pcAt_shut (h5.eq (show _ = blk b #[.pointer (some ⟨t, 0, none⟩), .pointer (some ⟨v, 0, none⟩)] 140 * (tlbAt t k * (walkerAt v 0 kk * (coreAt c0 k kk * (framesAt f ss * (memAt q ss * (blk X #[(Value.int .i64) 4, (Value.int .i64) x.k, (Value.int .i64) x.i, (Value.int .u64) x.w, (Value.int .i64) x.a.page, (Value.int .i64) x.a.kind, Value.bool x.a.user, (Value.int .i64) x.m.page, (Value.int .i64) x.m.size, (Value.int .i64) x.m.frame, (Value.int .i64) x.m.rights] 146 * old w w.heap.size)))))) by rw [hev]; ac_rfl))).eq (by ac_rfl), (x2.set _ _).trans x5⟩
          --E]
        go_wp2_with fail
        go_meet
        case rel => exact ⟨kk, ss, l, hkk, hss, hl, hw, x2⟩
      case rest => as_aux_lemma =>
        --[F
        clear hw x2 c1 c2 c3 c4 c5 c6 c7 c8 c9 c10 c11 cl HXC hl hkk hss
        obtain ⟨k', s', l', hk', hs', hl', hw, x2⟩ := hcut
        have HF := Lib.hid (fun t R w h => findT t l' x.a.page R w hl'.lok hAc.1 h)
        have HKP := Lib.hid (fun R w h => keptRA c0 l' k' x.a.page R w hl' hAc.1 h)
        obtain ⟨y, ok, hy1, hy2, hy3⟩ : ∃ (y : Ln) (ok : Bool), lnOf (Tl.find l' x.a.page) = y.val ∧ (Tl.find l' x.a.page).isSome = ok ∧ ∀ z, Tl.find l' x.a.page = some z → y = z := by
          cases hf : Tl.find l' x.a.page with
          | none => exact ⟨Ln.zero, false, rfl, rfl, fun z h => by cases h⟩
          | some z => exact ⟨z, true, rfl, rfl, fun z' h => by injection h⟩
        rw [hy1, hy2] at HF
        have HY := Lib.hid hy3
        have HY2 := Lib.hid hy2
        clear hy1 hy2 hy3
        obtain ⟨t, v, h3⟩ := pcAt_open hw
        have h4 : Has wc (tlbAt t l' * (blk b #[.pointer (some ⟨t, 0, none⟩), .pointer (some ⟨v, 0, none⟩)] 140 * (blk X #[(Value.int .i64) x.op, (Value.int .i64) x.k, (Value.int .i64) x.i, (Value.int .u64) x.w, (Value.int .i64) x.a.page, (Value.int .i64) x.a.kind, Value.bool x.a.user, (Value.int .i64) x.m.page, (Value.int .i64) x.m.size, (Value.int .i64) x.m.frame, (Value.int .i64) x.m.rights] 146 * (walkerAt v 0 k' * (framesAt f s' * (coreAt c0 l' k' * (memAt q s' * old w w.heap.size))))))) := h3.eq (by ac_rfl)
        have HK := Lib.hid (fun (w' : World) (P Q : HProp) (h : Has w' (P * (blk b #[.pointer (some ⟨t, 0, none⟩), .pointer (some ⟨v, 0, none⟩)] 140 * (blk X #[(Value.int .i64) x.op, (Value.int .i64) x.k, (Value.int .i64) x.i, (Value.int .u64) x.w, (Value.int .i64) x.a.page, (Value.int .i64) x.a.kind, Value.bool x.a.user, (Value.int .i64) x.m.page, (Value.int .i64) x.m.size, (Value.int .i64) x.m.frame, (Value.int .i64) x.m.rights] 146 * Q)))) => (⟨h.right.cell 0, h.right.right.cell 4⟩ : w'.cell? ⟨b, 0, none⟩ = some (.pointer (some ⟨t, 0, none⟩)) ∧ w'.cell? ⟨X, 4, none⟩ = some ((Value.int .i64) x.a.page)))
        obtain ⟨b0, p0⟩ := HK.out _ _ _ h4
        have bl := h4.right.lt
        have xl := h4.right.right.lt
        clear hw h3
        go_upto_region 40 with fail
        go_cut [29, 30] from 201 to 212 (fun s29 s30 wx => ∃ V : Nat, s29 = .pointer (some ⟨V, 0, none⟩) ∧ s30 = Value.bool ok ∧ Has wx (blk V #[(Value.int .i64) y.m.page, (Value.int .i64) y.m.size, (Value.int .i64) y.m.frame, (Value.int .i64) y.m.rights, Value.bool y.dirty] 51 * (tlbAt t l' * (blk b #[.pointer (some ⟨t, 0, none⟩), .pointer (some ⟨v, 0, none⟩)] 140 * (blk X #[(Value.int .i64) x.op, (Value.int .i64) x.k, (Value.int .i64) x.i, (Value.int .u64) x.w, (Value.int .i64) x.a.page, (Value.int .i64) x.a.kind, Value.bool x.a.user, (Value.int .i64) x.m.page, (Value.int .i64) x.m.size, (Value.int .i64) x.m.frame, (Value.int .i64) x.m.rights] 146 * (walkerAt v 0 k' * (framesAt f s' * (coreAt c0 l' k' * (memAt q s' * old w w.heap.size)))))))) ∧ Ext w wx)
        case first =>
          have h5 := h4.drew
          have x5 := x2.drew
          have z5 : Has (wc.alloc (.cells #[(Value.int .i64) 0, (Value.int .i64) 0, (Value.int .i64) 0, (Value.int .i64) 0, Value.bool false] 51)).drew (tlbAt t l' * (blk b #[.pointer (some ⟨t, 0, none⟩), .pointer (some ⟨v, 0, none⟩)] 140 * (blk X #[(Value.int .i64) x.op, (Value.int .i64) x.k, (Value.int .i64) x.i, (Value.int .u64) x.w, (Value.int .i64) x.a.page, (Value.int .i64) x.a.kind, Value.bool x.a.user, (Value.int .i64) x.m.page, (Value.int .i64) x.m.size, (Value.int .i64) x.m.frame, (Value.int .i64) x.m.rights] 146 * (blk wc.heap.size #[(Value.int .i64) 0, (Value.int .i64) 0, (Value.int .i64) 0, (Value.int .i64) 0, Value.bool false] 51 * (walkerAt v 0 k' * (framesAt f s' * (coreAt c0 l' k' * (memAt q s' * old w w.heap.size)))))))) := (h4.new #[(Value.int .i64) 0, (Value.int .i64) 0, (Value.int .i64) 0, (Value.int .i64) 0, Value.bool false] 51).drew.eq (by ac_rfl)
          have y5 := (x2.alloc (.cells #[(Value.int .i64) 0, (Value.int .i64) 0, (Value.int .i64) 0, (Value.int .i64) 0, Value.bool false] 51)).drew
          go_region_held3 (fun w' => w'.cell? ⟨b, 0, none⟩ = some (.pointer (some ⟨t, 0, none⟩)) ∧ w'.cell? ⟨X, 4, none⟩ = some ((Value.int .i64) x.a.page)) (first | (with_reducible exact HK.out _ _ _ h5) | (with_reducible exact HK.out _ _ _ z5) | (with_reducible exact HK.out _ _ _ hL) | (with_reducible exact HK.out _ _ _ (hL.alloc _)) | (with_reducible exact HK.out _ _ _ gL) | (with_reducible exact HK.out _ _ _ gL.right) | (with_reducible exact HK.out _ _ _ (gL.set5 _ _ _ _ _).right) | go_keep) (first | (go_at_call 78; first | ((with_reducible refine (HF.out _ _ _ h5).mono ?_); rintro e w5 ⟨rfl, b5⟩; have hL := h5.below b5; have xL := x5.below b5) | ((with_reducible refine (HF.out _ _ _ z5).mono ?_); rintro e w5 ⟨rfl, b5⟩; have gL : Has w5 (blk wc.heap.size #[(Value.int .i64) 0, (Value.int .i64) 0, (Value.int .i64) 0, (Value.int .i64) 0, Value.bool false] 51 * (tlbAt t l' * (blk b #[.pointer (some ⟨t, 0, none⟩), .pointer (some ⟨v, 0, none⟩)] 140 * (blk X #[(Value.int .i64) x.op, (Value.int .i64) x.k, (Value.int .i64) x.i, (Value.int .u64) x.w, (Value.int .i64) x.a.page, (Value.int .i64) x.a.kind, Value.bool x.a.user, (Value.int .i64) x.m.page, (Value.int .i64) x.m.size, (Value.int .i64) x.m.frame, (Value.int .i64) x.m.rights] 146 * (walkerAt v 0 k' * (framesAt f s' * (coreAt c0 l' k' * (memAt q s' * old w w.heap.size)))))))) := (z5.below b5).eq (by ac_rfl); have yL := y5.below b5; obtain ⟨z0, z1, z2, z3, z4⟩ := gL.cells5; obtain ⟨y0, y1, y2, y3, y4⟩ := gL.frees5; have zl := gL.lt)))
          all_goals
            go_wp2_with fail
            go_meet
            case rel => first | exact ⟨_, rfl, rfl, hL.new #[(Value.int .i64) y.m.page, (Value.int .i64) y.m.size, (Value.int .i64) y.m.frame, (Value.int .i64) y.m.rights, Value.bool y.dirty] 51, xL.alloc _⟩ | exact ⟨_, rfl, rfl, gL.set5 _ _ _ _ _, ((((yL.set _ _).set _ _).set _ _).set _ _).set _ _⟩
        case rest =>
          clear h4 x2 b0 p0 bl xl HF HK
          obtain ⟨V, rfl, rfl, h6, x6⟩ := hcut
          have p0 := h6.right.right.right.cell 4
          have xl := h6.right.right.right.lt
          go_wp2_with fail
          refine (HKP.out _ _ (h6.eq (show _ = coreAt c0 l' k' * (blk V #[(Value.int .i64) y.m.page, (Value.int .i64) y.m.size, (Value.int .i64) y.m.frame, (Value.int .i64) y.m.rights, Value.bool y.dirty] 51 * (tlbAt t l' * (blk b #[.pointer (some ⟨t, 0, none⟩), .pointer (some ⟨v, 0, none⟩)] 140 * (blk X #[(Value.int .i64) x.op, (Value.int .i64) x.k, (Value.int .i64) x.i, (Value.int .u64) x.w, (Value.int .i64) x.a.page, (Value.int .i64) x.a.kind, Value.bool x.a.user, (Value.int .i64) x.m.page, (Value.int .i64) x.m.size, (Value.int .i64) x.m.frame, (Value.int .i64) x.m.rights] 146 * (walkerAt v 0 k' * (framesAt f s' * (memAt q s' * old w w.heap.size))))))) by ac_rfl))).mono ?_; rintro e w7 ⟨rfl, b7⟩
          obtain ⟨AA, cc, hq⟩ := coreAt_open ((h6.below b7).eq (show _ = coreAt c0 l' k' * (blk V #[(Value.int .i64) y.m.page, (Value.int .i64) y.m.size, (Value.int .i64) y.m.frame, (Value.int .i64) y.m.rights, Value.bool y.dirty] 51 * (tlbAt t l' * (blk b #[.pointer (some ⟨t, 0, none⟩), .pointer (some ⟨v, 0, none⟩)] 140 * (blk X #[(Value.int .i64) x.op, (Value.int .i64) x.k, (Value.int .i64) x.i, (Value.int .u64) x.w, (Value.int .i64) x.a.page, (Value.int .i64) x.a.kind, Value.bool x.a.user, (Value.int .i64) x.m.page, (Value.int .i64) x.m.size, (Value.int .i64) x.m.frame, (Value.int .i64) x.m.rights] 146 * (walkerAt v 0 k' * (framesAt f s' * (memAt q s' * old w w.heap.size))))))) by ac_rfl))
          have hq : Has w7 (coreIn c0 AA cc l' k' (blk V #[(Value.int .i64) y.m.page, (Value.int .i64) y.m.size, (Value.int .i64) y.m.frame, (Value.int .i64) y.m.rights, Value.bool y.dirty] 51 * (blk b #[.pointer (some ⟨t, 0, none⟩), .pointer (some ⟨v, 0, none⟩)] 140 * (tlbAt t l' * (walkerAt v 0 k' * (framesAt f s' * (memAt q s' * (blk X #[(Value.int .i64) x.op, (Value.int .i64) x.k, (Value.int .i64) x.i, (Value.int .u64) x.w, (Value.int .i64) x.a.page, (Value.int .i64) x.a.kind, Value.bool x.a.user, (Value.int .i64) x.m.page, (Value.int .i64) x.m.size, (Value.int .i64) x.m.frame, (Value.int .i64) x.m.rights] 146 * old w w.heap.size)))))))) := hq.eq (by unfold coreIn; ac_rfl)
          have x7 := x6.below b7
          clear h6 x6 p0 xl b7 HKP
          have HBY := Lib.hid (fun R w h => busyC b l' 0 k' R w h)
          have HAC := Lib.hid (fun R w h => accessC b l' 0 k' R w h)
          have L1 := Lib.hid (fun R w h => listT t l' R w (Nat.le_trans hl'.len (by omega)) h)
          have HCL := Lib.hid (fun (w' : World) (h : Has w' (coreIn c0 AA cc l' k' (blk V #[(Value.int .i64) y.m.page, (Value.int .i64) y.m.size, (Value.int .i64) y.m.frame, (Value.int .i64) y.m.rights, Value.bool y.dirty] 51 * (blk b #[.pointer (some ⟨t, 0, none⟩), .pointer (some ⟨v, 0, none⟩)] 140 * (tlbAt t l' * (walkerAt v 0 k' * (framesAt f s' * (memAt q s' * (blk X #[(Value.int .i64) x.op, (Value.int .i64) x.k, (Value.int .i64) x.i, (Value.int .u64) x.w, (Value.int .i64) x.a.page, (Value.int .i64) x.a.kind, Value.bool x.a.user, (Value.int .i64) x.m.page, (Value.int .i64) x.m.size, (Value.int .i64) x.m.frame, (Value.int .i64) x.m.rights] 146 * old w w.heap.size))))))))) => (pcAt_shut (h.eq (show _ = blk b #[.pointer (some ⟨t, 0, none⟩), .pointer (some ⟨v, 0, none⟩)] 140 * (tlbAt t l' * (walkerAt v 0 k' * coreIn c0 AA cc l' k' (blk V #[(Value.int .i64) y.m.page, (Value.int .i64) y.m.size, (Value.int .i64) y.m.frame, (Value.int .i64) y.m.rights, Value.bool y.dirty] 51 * (blk X #[(Value.int .i64) x.op, (Value.int .i64) x.k, (Value.int .i64) x.i, (Value.int .u64) x.w, (Value.int .i64) x.a.page, (Value.int .i64) x.a.kind, Value.bool x.a.user, (Value.int .i64) x.m.page, (Value.int .i64) x.m.size, (Value.int .i64) x.m.frame, (Value.int .i64) x.m.rights] 146 * (framesAt f s' * (memAt q s' * old w w.heap.size)))))) by unfold coreIn; ac_rfl)) : Has w' (pcAt b l' 0 k' * coreIn c0 AA cc l' k' (blk V #[(Value.int .i64) y.m.page, (Value.int .i64) y.m.size, (Value.int .i64) y.m.frame, (Value.int .i64) y.m.rights, Value.bool y.dirty] 51 * (blk X #[(Value.int .i64) x.op, (Value.int .i64) x.k, (Value.int .i64) x.i, (Value.int .u64) x.w, (Value.int .i64) x.a.page, (Value.int .i64) x.a.kind, Value.bool x.a.user, (Value.int .i64) x.m.page, (Value.int .i64) x.m.size, (Value.int .i64) x.m.frame, (Value.int .i64) x.m.rights] 146 * (framesAt f s' * (memAt q s' * old w w.heap.size)))))))
          have HTL := Lib.hid (fun (w' : World) (h : Has w' (coreIn c0 AA cc l' k' (blk V #[(Value.int .i64) y.m.page, (Value.int .i64) y.m.size, (Value.int .i64) y.m.frame, (Value.int .i64) y.m.rights, Value.bool y.dirty] 51 * (blk b #[.pointer (some ⟨t, 0, none⟩), .pointer (some ⟨v, 0, none⟩)] 140 * (tlbAt t l' * (walkerAt v 0 k' * (framesAt f s' * (memAt q s' * (blk X #[(Value.int .i64) x.op, (Value.int .i64) x.k, (Value.int .i64) x.i, (Value.int .u64) x.w, (Value.int .i64) x.a.page, (Value.int .i64) x.a.kind, Value.bool x.a.user, (Value.int .i64) x.m.page, (Value.int .i64) x.m.size, (Value.int .i64) x.m.frame, (Value.int .i64) x.m.rights] 146 * old w w.heap.size))))))))) => (h.eq (by unfold coreIn; ac_rfl) : Has w' (tlbAt t l' * coreIn c0 AA cc l' k' (blk V #[(Value.int .i64) y.m.page, (Value.int .i64) y.m.size, (Value.int .i64) y.m.frame, (Value.int .i64) y.m.rights, Value.bool y.dirty] 51 * (blk b #[.pointer (some ⟨t, 0, none⟩), .pointer (some ⟨v, 0, none⟩)] 140 * (blk X #[(Value.int .i64) x.op, (Value.int .i64) x.k, (Value.int .i64) x.i, (Value.int .u64) x.w, (Value.int .i64) x.a.page, (Value.int .i64) x.a.kind, Value.bool x.a.user, (Value.int .i64) x.m.page, (Value.int .i64) x.m.size, (Value.int .i64) x.m.frame, (Value.int .i64) x.m.rights] 146 * (walkerAt v 0 k' * (framesAt f s' * (memAt q s' * old w w.heap.size)))))))))
          have HEND := Lib.hid (fun (w' : World) (h : Has w' (coreIn c0 AA cc l' k' (blk V #[(Value.int .i64) y.m.page, (Value.int .i64) y.m.size, (Value.int .i64) y.m.frame, (Value.int .i64) y.m.rights, Value.bool y.dirty] 51 * (blk b #[.pointer (some ⟨t, 0, none⟩), .pointer (some ⟨v, 0, none⟩)] 140 * (tlbAt t l' * (walkerAt v 0 k' * (framesAt f s' * (memAt q s' * (blk X #[(Value.int .i64) x.op, (Value.int .i64) x.k, (Value.int .i64) x.i, (Value.int .u64) x.w, (Value.int .i64) x.a.page, (Value.int .i64) x.a.kind, Value.bool x.a.user, (Value.int .i64) x.m.page, (Value.int .i64) x.m.size, (Value.int .i64) x.m.frame, (Value.int .i64) x.m.rights] 146 * old w w.heap.size))))))))) => (by
            have h1 := pcAt_shut ((coreAt_shut h).eq (show _ = blk b #[.pointer (some ⟨t, 0, none⟩), .pointer (some ⟨v, 0, none⟩)] 140 * (tlbAt t l' * (walkerAt v 0 k' * (blk V #[(Value.int .i64) y.m.page, (Value.int .i64) y.m.size, (Value.int .i64) y.m.frame, (Value.int .i64) y.m.rights, Value.bool y.dirty] 51 * (blk X #[(Value.int .i64) x.op, (Value.int .i64) x.k, (Value.int .i64) x.i, (Value.int .u64) x.w, (Value.int .i64) x.a.page, (Value.int .i64) x.a.kind, Value.bool x.a.user, (Value.int .i64) x.m.page, (Value.int .i64) x.m.size, (Value.int .i64) x.m.frame, (Value.int .i64) x.m.rights] 146 * (framesAt f s' * (coreAt c0 l' k' * (memAt q s' * old w w.heap.size))))))) by ac_rfl))
            have h2 : Has w' (blk V #[(Value.int .i64) y.m.page, (Value.int .i64) y.m.size, (Value.int .i64) y.m.frame, (Value.int .i64) y.m.rights, Value.bool y.dirty] 51 * (blk X #[(Value.int .i64) x.op, (Value.int .i64) x.k, (Value.int .i64) x.i, (Value.int .u64) x.w, (Value.int .i64) x.a.page, (Value.int .i64) x.a.kind, Value.bool x.a.user, (Value.int .i64) x.m.page, (Value.int .i64) x.m.size, (Value.int .i64) x.m.frame, (Value.int .i64) x.m.rights] 146 * (pcAt b l' 0 k' * (framesAt f s' * (coreAt c0 l' k' * (memAt q s' * old w w.heap.size)))))) := h1.eq (by ac_rfl)
            exact h2.right.right : Has w' (pcAt b l' 0 k' * (framesAt f s' * (coreAt c0 l' k' * (memAt q s' * old w w.heap.size))))))
          have hbl := hq.right.right.right.lt
          have hcl : c0 < w7.heap.size := (core_cells hq).2.2.2.2.2.2.2.2
          rcases Tl.idx_find l' x.a.page with ⟨e1, e2⟩ | ⟨j, hj, e2, e1, _⟩
          · as_aux_lemma =>
              have hok : ok = false := by rw [← HY2.out, e1]; rfl
              subst hok
              rw [e2]
              clear e1 e2 HY HY2
              have HSG := Lib.hid (fun (w' : World) (h : Has w' (coreIn c0 AA cc l' k' (blk V #[(Value.int .i64) y.m.page, (Value.int .i64) y.m.size, (Value.int .i64) y.m.frame, (Value.int .i64) y.m.rights, Value.bool y.dirty] 51 * (blk b #[.pointer (some ⟨t, 0, none⟩), .pointer (some ⟨v, 0, none⟩)] 140 * (tlbAt t l' * (walkerAt v 0 k' * (framesAt f s' * (memAt q s' * (blk X #[(Value.int .i64) x.op, (Value.int .i64) x.k, (Value.int .i64) x.i, (Value.int .u64) x.w, (Value.int .i64) x.a.page, (Value.int .i64) x.a.kind, Value.bool x.a.user, (Value.int .i64) x.m.page, (Value.int .i64) x.m.size, (Value.int .i64) x.m.frame, (Value.int .i64) x.m.rights] 146 * old w w.heap.size))))))))) => (by
                have h1 := h
                unfold coreIn coreBlk at h1
                exact ⟨h1.cell 0, h1.cell 1, ⟨h1.cell 2, h1.cell 3, h1.cell 4⟩, h.right.right.right.cell 0⟩ : w'.cell? ⟨c0, 0, none⟩ = some (.slice AA l'.length cc) ∧ w'.cell? ⟨c0, 1, none⟩ = some (Value.bool k'.on) ∧ (w'.cell? ⟨c0, 2, none⟩ = some ((Value.int .i64) k'.a.page) ∧ w'.cell? ⟨c0, 3, none⟩ = some ((Value.int .i64) k'.a.kind) ∧ w'.cell? ⟨c0, 4, none⟩ = some (Value.bool k'.a.user)) ∧ w'.cell? ⟨b, 0, none⟩ = some (.pointer (some ⟨t, 0, none⟩))))
              go_upto_region 42 with fail
              refine wp_region_held_drew (S := fun w' => w'.cell? ⟨c0, 0, none⟩ = some (.slice AA l'.length cc) ∧ w'.cell? ⟨c0, 1, none⟩ = some (Value.bool k'.on) ∧ (w'.cell? ⟨c0, 2, none⟩ = some ((Value.int .i64) k'.a.page) ∧ w'.cell? ⟨c0, 3, none⟩ = some ((Value.int .i64) k'.a.kind) ∧ w'.cell? ⟨c0, 4, none⟩ = some (Value.bool k'.a.user)) ∧ w'.cell? ⟨b, 0, none⟩ = some (.pointer (some ⟨t, 0, none⟩))) (by kernel_rfl) (HSG.out _ hq) (fun hHeld => ?_)
              refine wpAnyH_take (i := 0) (v := ?_) rfl (by kernel_rfl) (by kernel_rfl) (by kernel_rfl) (fun _ _ _ h => h) (Or.inl ⟨by kernel_rfl, ?_⟩) hHeld ?_
              rotate_left
              focus (intro wS hSw; (try dsimp only at hSw); go_simp; first | done | with_reducible rfl)
              try go_simp
              refine wpAnyH_take (i := 2) (v := ?_) rfl (by kernel_rfl) (by kernel_rfl) (by kernel_rfl) (fun _ _ _ h => h) (Or.inl ⟨by kernel_rfl, ?_⟩) hHeld ?_
              rotate_left
              focus (intro wS hSw; (try dsimp only at hSw); go_simp; first | done | with_reducible rfl)
              try go_simp
              refine wpAnyH_take (i := 3) (v := ?_) rfl (by kernel_rfl) (by kernel_rfl) (by kernel_rfl) (fun _ _ _ h => h) (Or.inl ⟨by kernel_rfl, ?_⟩) hHeld ?_
              rotate_left
              focus (intro wS hSw; (try dsimp only at hSw); go_simp; first | done | with_reducible rfl)
              try go_simp
              refine wpAnyH_take (i := 4) (v := ?_) rfl (by kernel_rfl) (by kernel_rfl) (by kernel_rfl) (fun _ _ _ h => h) (Or.inl ⟨by kernel_rfl, ?_⟩) hHeld ?_
              rotate_left
              focus (intro wS hSw; (try dsimp only at hSw); go_simp; first | done | with_reducible rfl)
              try go_simp
              refine wpAnyH_take (i := 5) (v := ?_) rfl (by kernel_rfl) (by kernel_rfl) (by kernel_rfl) (fun _ _ _ h => h) (Or.inl ⟨by kernel_rfl, ?_⟩) hHeld ?_
              rotate_left
              focus (intro wS hSw; (try dsimp only at hSw); go_simp; first | done | with_reducible rfl)
              try go_simp
              refine wpAnyH_ready (rs := [1]) (by kernel_rfl) (by simp) (AllReadyH.cons rfl (fun K hK => ?_) AllReadyH.nil)
              go_simp
              go_wp2_with ((go_at_call 84; refine (HBY.out _ _ (HCL.out _ hq.drew)).mono ?_; rintro e w8 ⟨rfl, rfl⟩))
              refine hK.out _ _ (HSG.out _ hq.drew) (fun hHeld => ?_)
              clear hK K
              refine wpAnyH_take (i := 6) (v := ?_) rfl (by kernel_rfl) (by kernel_rfl) (by kernel_rfl) (fun _ _ _ h => h) (Or.inl ⟨by kernel_rfl, ?_⟩) hHeld ?_
              rotate_left
              focus (intro wS hSw; (try dsimp only at hSw); go_simp; first | done | with_reducible rfl)
              try go_simp
              refine wpAnyH_take (i := 7) (v := ?_) rfl (by kernel_rfl) (by kernel_rfl) (by kernel_rfl) (fun _ _ _ h => h) (Or.inl ⟨by kernel_rfl, ?_⟩) hHeld ?_
              rotate_left
              focus (intro wS hSw; (try dsimp only at hSw); go_simp; first | done | with_reducible rfl)
              try go_simp
              refine wpAnyH_take (i := 8) (v := ?_) rfl (by kernel_rfl) (by kernel_rfl) (by kernel_rfl) (fun _ _ _ h => h) (Or.inl ⟨by kernel_rfl, ?_⟩) hHeld ?_
              rotate_left
              focus (intro wS hSw; (try dsimp only at hSw); go_simp; first | done | with_reducible rfl)
              try go_simp
              refine wpAnyH_take (i := 10) (v := ?_) rfl (by kernel_rfl) (by kernel_rfl) (by kernel_rfl) (fun _ _ _ h => h) (Or.inl ⟨by kernel_rfl, ?_⟩) hHeld ?_
              rotate_left
              focus (intro wS hSw; (try dsimp only at hSw); go_simp; first | done | with_reducible rfl)
              try go_simp
              refine wpAnyH_take (i := 11) (v := ?_) rfl (by kernel_rfl) (by kernel_rfl) (by kernel_rfl) (fun _ _ _ h => h) (Or.inl ⟨by kernel_rfl, ?_⟩) hHeld ?_
              rotate_left
              focus (intro wS hSw; (try dsimp only at hSw); go_simp; first | done | with_reducible rfl)
              try go_simp
              refine wpAnyH_take (i := 12) (v := ?_) rfl (by kernel_rfl) (by kernel_rfl) (by kernel_rfl) (fun _ _ _ h => h) (Or.inl ⟨by kernel_rfl, ?_⟩) hHeld ?_
              rotate_left
              focus (intro wS hSw; (try dsimp only at hSw); go_simp; first | done | with_reducible rfl)
              try go_simp
              refine wpAnyH_take (i := 13) (v := ?_) rfl (by kernel_rfl) (by kernel_rfl) (by kernel_rfl) (fun _ _ _ h => h) (Or.inl ⟨by kernel_rfl, ?_⟩) hHeld ?_
              rotate_left
              focus (intro wS hSw; (try dsimp only at hSw); go_simp; first | done | with_reducible rfl)
              try go_simp
              refine wpAnyH_ready (rs := [9]) (by kernel_rfl) (by simp) (AllReadyH.cons rfl (fun K hK => ?_) AllReadyH.nil)
              go_simp
              go_wp2_with ((go_at_call 85; refine (HAC.out _ _ (HCL.out _ hq.drew)).mono ?_; rintro e w9 ⟨rfl, b9⟩))
              refine hK.out _ _ (HSG.out _ (hq.drew.below b9)) (fun hHeld => ?_)
              clear hK K
              have h9 := hq.drew.below b9
              have x9 := x7.drew.below b9
              refine wpAnyH_take (i := 14) (v := ?_) rfl (by kernel_rfl) (by kernel_rfl) (by kernel_rfl) (fun _ _ _ h => h) (Or.inl ⟨by kernel_rfl, ?_⟩) hHeld ?_
              rotate_left
              focus (intro wS hSw; (try dsimp only at hSw); go_simp; first | done | with_reducible rfl)
              try go_simp
              refine wpAnyH_take (i := 15) (v := ?_) rfl (by kernel_rfl) (by kernel_rfl) (by kernel_rfl) (fun _ _ _ h => h) (Or.inl ⟨by kernel_rfl, ?_⟩) hHeld ?_
              rotate_left
              focus (intro wS hSw; (try dsimp only at hSw); go_simp; first | done | with_reducible rfl)
              try go_simp
              refine wpAnyH_take (i := 16) (v := ?_) rfl (by kernel_rfl) (by kernel_rfl) (by kernel_rfl) (fun _ _ _ h => h) (Or.inl ⟨by kernel_rfl, ?_⟩) hHeld ?_
              rotate_left
              focus (intro wS hSw; (try dsimp only at hSw); go_simp; first | done | with_reducible rfl)
              try go_simp
              refine wpAnyH_take (i := 17) (v := ?_) rfl (by kernel_rfl) (by kernel_rfl) (by kernel_rfl) (fun _ _ _ h => h) (Or.inl ⟨by kernel_rfl, ?_⟩) hHeld ?_
              rotate_left
              focus (intro wS hSw; (try dsimp only at hSw); go_simp; first | done | with_reducible rfl)
              try go_simp
              refine wpAnyH_take (i := 18) (v := ?_) rfl (by kernel_rfl) (by kernel_rfl) (by kernel_rfl) (fun _ _ _ h => h) (Or.inl ⟨by kernel_rfl, ?_⟩) hHeld ?_
              rotate_left
              focus (intro wS hSw; (try dsimp only at hSw); go_simp; first | done | with_reducible rfl)
              try go_simp
              refine wpAnyH_take (i := 19) (v := ?_) rfl (by kernel_rfl) (by kernel_rfl) (by kernel_rfl) (fun _ _ _ h => h) (Or.inl ⟨by kernel_rfl, ?_⟩) hHeld ?_
              rotate_left
              focus (intro wS hSw; (try dsimp only at hSw); go_simp; first | done | with_reducible rfl)
              try go_simp
              refine wpAnyH_take (i := 20) (v := ?_) rfl (by kernel_rfl) (by kernel_rfl) (by kernel_rfl) (fun _ _ _ h => h) (Or.inl ⟨by kernel_rfl, ?_⟩) hHeld ?_
              rotate_left
              focus (intro wS hSw; (try dsimp only at hSw); go_simp; first | done | with_reducible rfl)
              try go_simp
              refine wpAnyH_take (i := 22) (v := ?_) rfl (by kernel_rfl) (by kernel_rfl) (by kernel_rfl) (fun _ _ _ h => h) (Or.inl ⟨by kernel_rfl, ?_⟩) hHeld ?_
              rotate_left
              focus (intro wS hSw; (try dsimp only at hSw); go_simp; first | done | with_reducible rfl)
              try go_simp
              refine wpAnyH_take (i := 23) (v := ?_) rfl (by kernel_rfl) (by kernel_rfl) (by kernel_rfl) (fun _ _ _ h => h) (Or.inl ⟨by kernel_rfl, ?_⟩) hHeld ?_
              rotate_left
              focus (intro wS hSw; (try dsimp only at hSw); go_simp; first | done | with_reducible rfl)
              try go_simp
              refine wpAnyH_take (i := 24) (v := ?_) rfl (by kernel_rfl) (by kernel_rfl) (by kernel_rfl) (fun _ _ _ h => h) (Or.inl ⟨by kernel_rfl, ?_⟩) hHeld ?_
              rotate_left
              focus (intro wS hSw; (try dsimp only at hSw); go_simp; first | done | with_reducible rfl)
              try go_simp
              refine wpAnyH_take (i := 25) (v := ?_) rfl (by kernel_rfl) (by kernel_rfl) (by kernel_rfl) (fun _ _ _ h => h) (Or.inl ⟨by kernel_rfl, ?_⟩) hHeld ?_
              rotate_left
              focus (intro wS hSw; (try dsimp only at hSw); go_simp; first | done | with_reducible rfl)
              try go_simp
              refine wpAnyH_ready (rs := [21]) (by kernel_rfl) (by simp) (AllReadyH.cons rfl (fun K hK => ?_) AllReadyH.nil)
              go_simp
              go_wp2_with ((go_at_call 77; refine (L1.out _ _ (HTL.out _ h9)).mono ?_; rintro e w10 ⟨A', n', c', rfl, h10, x10⟩))
              refine hK.out _ _ (HSG.out _ (h9.onto h10).right) (fun hHeld => ?_)
              clear hK K
              have h10' := h9.onto h10
              have h10'' := Has.eq h10' (congrArg (fun P => lrow (.slice A' n' c') l' * P) (star_left_comm (coreBlk c0 (.slice AA l'.length cc) k') (rrow (.slice AA l'.length cc) l') _))
              refine wpAnyH_ready (rs := [26]) (by kernel_rfl) (by simp) (AllReadyH.cons rfl (fun K hK => ?_) AllReadyH.nil)
              go_simp
              go_wp2_with ((go_at_call 86; refine (sameLines_any l' A' AA n' c' _ cc _ _ h10'').mono ?_; rintro e w11 ⟨rfl, b11⟩))
              refine hK.out _ _ (HSG.out _ (h10'.below b11).right) (fun hHeld => ?_)
              clear hK K
              have h11 := (h10'.below b11).right
              have x11 := (x9.trans x10).below b11
              refine wpAnyH_take (i := 27) (v := ?_) rfl (by kernel_rfl) (by kernel_rfl) (by kernel_rfl) (fun _ _ _ h => h) (Or.inl ⟨by kernel_rfl, ?_⟩) hHeld ?_
              rotate_left
              focus (intro wS hSw; (try dsimp only at hSw); go_simp; first | done | with_reducible rfl)
              try go_simp
              refine wpAnyH_take (i := 28) (v := ?_) rfl (by kernel_rfl) (by kernel_rfl) (by kernel_rfl) (fun _ _ _ h => h) (Or.inl ⟨by kernel_rfl, ?_⟩) hHeld ?_
              rotate_left
              focus (intro wS hSw; (try dsimp only at hSw); go_simp; first | done | with_reducible rfl)
              try go_simp
              refine wpAnyH_take (i := 29) (v := ?_) rfl (by kernel_rfl) (by kernel_rfl) (by kernel_rfl) (fun _ _ _ h => h) (Or.inl ⟨by kernel_rfl, ?_⟩) hHeld ?_
              rotate_left
              focus (intro wS hSw; (try dsimp only at hSw); go_simp; first | done | with_reducible rfl)
              try go_simp
              refine wpAnyH_take (i := 30) (v := ?_) rfl (by kernel_rfl) (by kernel_rfl) (by kernel_rfl) (fun _ _ _ h => h) (Or.inl ⟨by kernel_rfl, ?_⟩) hHeld ?_
              rotate_left
              focus (intro wS hSw; (try dsimp only at hSw); go_simp; first | done | with_reducible rfl)
              try go_simp
              refine wpAnyH_take (i := 31) (v := ?_) rfl (by kernel_rfl) (by kernel_rfl) (by kernel_rfl) (fun _ _ _ h => h) (Or.inl ⟨by kernel_rfl, ?_⟩) hHeld ?_
              rotate_left
              focus (intro wS hSw; (try dsimp only at hSw); go_simp; first | done | with_reducible rfl)
              try go_simp
              refine wpAnyH_take (i := 32) (v := ?_) rfl (by kernel_rfl) (by kernel_rfl) (by kernel_rfl) (fun _ _ _ h => h) (Or.inl ⟨by kernel_rfl, ?_⟩) hHeld ?_
              rotate_left
              focus (intro wS hSw; (try dsimp only at hSw); go_simp; first | done | with_reducible rfl)
              try go_simp
              refine wpAnyH_take (i := 33) (v := ?_) rfl (by kernel_rfl) (by kernel_rfl) (by kernel_rfl) (fun _ _ _ h => h) (Or.inl ⟨by kernel_rfl, ?_⟩) hHeld ?_
              rotate_left
              focus (intro wS hSw; (try dsimp only at hSw); go_simp; first | done | with_reducible rfl)
              try go_simp
              refine wpAnyH_take (i := 34) (v := ?_) rfl (by kernel_rfl) (by kernel_rfl) (by kernel_rfl) (fun _ _ _ h => h) (Or.inl ⟨by kernel_rfl, ?_⟩) hHeld ?_
              rotate_left
              focus (intro wS hSw; (try dsimp only at hSw); go_simp; first | done | with_reducible rfl)
              try go_simp
              refine wpAnyH_take (i := 35) (v := ?_) rfl (by kernel_rfl) (by kernel_rfl) (by kernel_rfl) (fun _ _ _ h => h) (Or.inl ⟨by kernel_rfl, ?_⟩) hHeld ?_
              rotate_left
              focus (intro wS hSw; (try dsimp only at hSw); go_simp; first | done | with_reducible rfl)
              try go_simp
              refine wpAnyH_take (i := 36) (v := ?_) rfl (by kernel_rfl) (by kernel_rfl) (by kernel_rfl) (fun _ _ _ h => h) (Or.inl ⟨by kernel_rfl, ?_⟩) hHeld ?_
              rotate_left
              focus (intro wS hSw; (try dsimp only at hSw); go_simp; first | done | with_reducible rfl)
              try go_simp
              refine wpAnyH_take (i := 37) (v := ?_) rfl (by kernel_rfl) (by kernel_rfl) (by kernel_rfl) (fun _ _ _ h => h) (Or.inl ⟨by kernel_rfl, ?_⟩) hHeld ?_
              rotate_left
              focus (intro wS hSw; (try dsimp only at hSw); go_simp; first | done | with_reducible rfl)
              try go_simp
              refine wpAnyH_take (i := 38) rfl (by kernel_rfl) (by kernel_rfl) (by kernel_rfl) (fun _ _ _ h => h) (Or.inr ⟨by kernel_rfl, rfl⟩) hHeld ?_
              try go_simp
              refine wpAnyH_take (i := 39) rfl (by kernel_rfl) (by kernel_rfl) (by kernel_rfl) (fun _ _ _ h => h) (Or.inr ⟨by kernel_rfl, rfl⟩) hHeld ?_
              try go_simp
              refine wpAnyH_take (i := 40) rfl (by kernel_rfl) (by kernel_rfl) (by kernel_rfl) (fun _ _ _ h => h) (Or.inr ⟨by kernel_rfl, rfl⟩) hHeld ?_
              try go_simp
              refine wpAnyH_take (i := 41) rfl (by kernel_rfl) (by kernel_rfl) (by kernel_rfl) (fun _ _ _ h => h) (Or.inr ⟨by kernel_rfl, rfl⟩) hHeld ?_
              try go_simp
              refine wpAnyH_take (i := 42) rfl (by kernel_rfl) (by kernel_rfl) (by kernel_rfl) (fun _ _ _ h => h) (Or.inr ⟨by kernel_rfl, rfl⟩) hHeld ?_
              try go_simp
              refine wpAnyH_take (i := 43) rfl (by kernel_rfl) (by kernel_rfl) (by kernel_rfl) (fun _ _ _ h => h) (Or.inr ⟨by kernel_rfl, rfl⟩) hHeld ?_
              try go_simp
              refine wpAnyH_take (i := 44) rfl (by kernel_rfl) (by kernel_rfl) (by kernel_rfl) (fun _ _ _ h => h) (Or.inr ⟨by kernel_rfl, rfl⟩) hHeld ?_
              try go_simp
              refine wpAnyH_take (i := 45) rfl (by kernel_rfl) (by kernel_rfl) (by kernel_rfl) (fun _ _ _ h => h) (Or.inr ⟨by kernel_rfl, rfl⟩) hHeld ?_
              try go_simp
              refine wpAnyH_take (i := 46) rfl (by kernel_rfl) (by kernel_rfl) (by kernel_rfl) (fun _ _ _ h => h) (Or.inr ⟨by kernel_rfl, rfl⟩) hHeld ?_
              try go_simp
              refine wpAnyH_take (i := 47) rfl (by kernel_rfl) (by kernel_rfl) (by kernel_rfl) (fun _ _ _ h => h) (Or.inr ⟨by kernel_rfl, rfl⟩) hHeld ?_
              try go_simp
              refine wpAnyH_take (i := 48) rfl (by kernel_rfl) (by kernel_rfl) (by kernel_rfl) (fun _ _ _ h => h) (Or.inr ⟨by kernel_rfl, rfl⟩) hHeld ?_
              try go_simp
              refine wpAnyH_take (i := 49) (v := ?_) rfl (by kernel_rfl) (by kernel_rfl) (by kernel_rfl) (fun _ _ _ h => h) (Or.inl ⟨by kernel_rfl, ?_⟩) hHeld ?_
              rotate_left
              focus (intro wS hSw; (try dsimp only at hSw); go_simp; first | done | with_reducible rfl)
              try go_simp
              refine wpAnyH_take (i := 50) (v := ?_) rfl (by kernel_rfl) (by kernel_rfl) (by kernel_rfl) (fun _ _ _ h => h) (Or.inl ⟨by kernel_rfl, ?_⟩) hHeld ?_
              rotate_left
              focus (intro wS hSw; (try dsimp only at hSw); go_simp; first | done | with_reducible rfl)
              try go_simp
              refine wpAnyH_done (by kernel_rfl) ?_ _
              go_wp2_with fail
              go_roundw
              case rel => exact ⟨i + 1, k', s', l', by omega, by go_num, hk', hs', hl', HEND.out _ h11, x11⟩
              case measure => simp [intOf]; omega
          · as_aux_lemma =>
              have hok : ok = true := by rw [← HY2.out, e1]; rfl
              subst hok
              rw [e2]
              have HYJ := Lib.hid (HY.out _ e1)
              have hji : (j : Int) < l'.length := by omega
              have hj0 : ¬ ((j : Int) < 0) := by omega
              clear e1 e2 HY HY2
              obtain ⟨g, go, rfl, gl, _⟩ := rrow_at hq.right hj
              have vl := hq.right.right.lt
              have HSG := Lib.hid (fun (w' : World) (h : Has w' (coreIn c0 (some ⟨g, go, none⟩) cc l' k' (blk V #[(Value.int .i64) y.m.page, (Value.int .i64) y.m.size, (Value.int .i64) y.m.frame, (Value.int .i64) y.m.rights, Value.bool y.dirty] 51 * (blk b #[.pointer (some ⟨t, 0, none⟩), .pointer (some ⟨v, 0, none⟩)] 140 * (tlbAt t l' * (walkerAt v 0 k' * (framesAt f s' * (memAt q s' * (blk X #[(Value.int .i64) x.op, (Value.int .i64) x.k, (Value.int .i64) x.i, (Value.int .u64) x.w, (Value.int .i64) x.a.page, (Value.int .i64) x.a.kind, Value.bool x.a.user, (Value.int .i64) x.m.page, (Value.int .i64) x.m.size, (Value.int .i64) x.m.frame, (Value.int .i64) x.m.rights] 146 * old w w.heap.size))))))))) => (by
                have h1 := h
                unfold coreIn coreBlk at h1
                obtain ⟨g', go', e, _, d0, d1, d2, d3, _⟩ := rrow_at h.right hj
                injection e with e
                injection e with e1 e2
                subst e1; subst e2
                rw [← HYJ.out] at d0 d1 d2 d3
                have hv := h.right.right
                exact ⟨h1.cell 0, h1.cell 1, ⟨h1.cell 2, h1.cell 3, h1.cell 4⟩, hv.right.cell 0, ⟨hv.cell 0, hv.cell 1, hv.cell 2, hv.cell 3⟩, d0, d1, d2, d3⟩ : w'.cell? ⟨c0, 0, none⟩ = some (.slice (some ⟨g, go, none⟩) l'.length cc) ∧ w'.cell? ⟨c0, 1, none⟩ = some (Value.bool k'.on) ∧ (w'.cell? ⟨c0, 2, none⟩ = some ((Value.int .i64) k'.a.page) ∧ w'.cell? ⟨c0, 3, none⟩ = some ((Value.int .i64) k'.a.kind) ∧ w'.cell? ⟨c0, 4, none⟩ = some (Value.bool k'.a.user)) ∧ w'.cell? ⟨b, 0, none⟩ = some (.pointer (some ⟨t, 0, none⟩)) ∧ (w'.cell? ⟨V, 0, none⟩ = some ((Value.int .i64) y.m.page) ∧ w'.cell? ⟨V, 1, none⟩ = some ((Value.int .i64) y.m.size) ∧ w'.cell? ⟨V, 2, none⟩ = some ((Value.int .i64) y.m.frame) ∧ w'.cell? ⟨V, 3, none⟩ = some ((Value.int .i64) y.m.rights)) ∧ (w'.cell? ⟨g, go + j * 5, none⟩ = some ((Value.int .i64) y.m.page) ∧ w'.cell? ⟨g, go + j * 5 + 1, none⟩ = some ((Value.int .i64) y.m.size) ∧ w'.cell? ⟨g, go + j * 5 + 2, none⟩ = some ((Value.int .i64) y.m.frame) ∧ w'.cell? ⟨g, go + j * 5 + 3, none⟩ = some ((Value.int .i64) y.m.rights))))
              go_upto_region 42 with fail
              refine wp_region_held_drew (S := fun w' => w'.cell? ⟨c0, 0, none⟩ = some (.slice (some ⟨g, go, none⟩) l'.length cc) ∧ w'.cell? ⟨c0, 1, none⟩ = some (Value.bool k'.on) ∧ (w'.cell? ⟨c0, 2, none⟩ = some ((Value.int .i64) k'.a.page) ∧ w'.cell? ⟨c0, 3, none⟩ = some ((Value.int .i64) k'.a.kind) ∧ w'.cell? ⟨c0, 4, none⟩ = some (Value.bool k'.a.user)) ∧ w'.cell? ⟨b, 0, none⟩ = some (.pointer (some ⟨t, 0, none⟩)) ∧ (w'.cell? ⟨V, 0, none⟩ = some ((Value.int .i64) y.m.page) ∧ w'.cell? ⟨V, 1, none⟩ = some ((Value.int .i64) y.m.size) ∧ w'.cell? ⟨V, 2, none⟩ = some ((Value.int .i64) y.m.frame) ∧ w'.cell? ⟨V, 3, none⟩ = some ((Value.int .i64) y.m.rights)) ∧ (w'.cell? ⟨g, go + j * 5, none⟩ = some ((Value.int .i64) y.m.page) ∧ w'.cell? ⟨g, go + j * 5 + 1, none⟩ = some ((Value.int .i64) y.m.size) ∧ w'.cell? ⟨g, go + j * 5 + 2, none⟩ = some ((Value.int .i64) y.m.frame) ∧ w'.cell? ⟨g, go + j * 5 + 3, none⟩ = some ((Value.int .i64) y.m.rights))) (by kernel_rfl) (HSG.out _ hq) (fun hHeld => ?_)
              refine wpAnyH_take (i := 0) (v := ?_) rfl (by kernel_rfl) (by kernel_rfl) (by kernel_rfl) (fun _ _ _ h => h) (Or.inl ⟨by kernel_rfl, ?_⟩) hHeld ?_
              rotate_left
              focus (intro wS hSw; (try dsimp only at hSw); go_simp; first | done | with_reducible rfl)
              try go_simp
              refine wpAnyH_take (i := 2) (v := ?_) rfl (by kernel_rfl) (by kernel_rfl) (by kernel_rfl) (fun _ _ _ h => h) (Or.inl ⟨by kernel_rfl, ?_⟩) hHeld ?_
              rotate_left
              focus (intro wS hSw; (try dsimp only at hSw); go_simp; first | done | with_reducible rfl)
              try go_simp
              refine wpAnyH_take (i := 3) (v := ?_) rfl (by kernel_rfl) (by kernel_rfl) (by kernel_rfl) (fun _ _ _ h => h) (Or.inl ⟨by kernel_rfl, ?_⟩) hHeld ?_
              rotate_left
              focus (intro wS hSw; (try dsimp only at hSw); go_simp; first | done | with_reducible rfl)
              try go_simp
              refine wpAnyH_take (i := 4) (v := ?_) rfl (by kernel_rfl) (by kernel_rfl) (by kernel_rfl) (fun _ _ _ h => h) (Or.inl ⟨by kernel_rfl, ?_⟩) hHeld ?_
              rotate_left
              focus (intro wS hSw; (try dsimp only at hSw); go_simp; first | done | with_reducible rfl)
              try go_simp
              refine wpAnyH_take (i := 5) (v := ?_) rfl (by kernel_rfl) (by kernel_rfl) (by kernel_rfl) (fun _ _ _ h => h) (Or.inl ⟨by kernel_rfl, ?_⟩) hHeld ?_
              rotate_left
              focus (intro wS hSw; (try dsimp only at hSw); go_simp; first | done | with_reducible rfl)
              try go_simp
              refine wpAnyH_ready (rs := [1]) (by kernel_rfl) (by simp) (AllReadyH.cons rfl (fun K hK => ?_) AllReadyH.nil)
              go_simp
              go_wp2_with ((go_at_call 84; refine (HBY.out _ _ (HCL.out _ hq.drew)).mono ?_; rintro e w8 ⟨rfl, rfl⟩))
              refine hK.out _ _ (HSG.out _ hq.drew) (fun hHeld => ?_)
              clear hK K
              refine wpAnyH_take (i := 6) (v := ?_) rfl (by kernel_rfl) (by kernel_rfl) (by kernel_rfl) (fun _ _ _ h => h) (Or.inl ⟨by kernel_rfl, ?_⟩) hHeld ?_
              rotate_left
              focus (intro wS hSw; (try dsimp only at hSw); go_simp; first | done | with_reducible rfl)
              try go_simp
              refine wpAnyH_take (i := 7) (v := ?_) rfl (by kernel_rfl) (by kernel_rfl) (by kernel_rfl) (fun _ _ _ h => h) (Or.inl ⟨by kernel_rfl, ?_⟩) hHeld ?_
              rotate_left
              focus (intro wS hSw; (try dsimp only at hSw); go_simp; first | done | with_reducible rfl)
              try go_simp
              refine wpAnyH_take (i := 8) (v := ?_) rfl (by kernel_rfl) (by kernel_rfl) (by kernel_rfl) (fun _ _ _ h => h) (Or.inl ⟨by kernel_rfl, ?_⟩) hHeld ?_
              rotate_left
              focus (intro wS hSw; (try dsimp only at hSw); go_simp; first | done | with_reducible rfl)
              try go_simp
              refine wpAnyH_take (i := 10) (v := ?_) rfl (by kernel_rfl) (by kernel_rfl) (by kernel_rfl) (fun _ _ _ h => h) (Or.inl ⟨by kernel_rfl, ?_⟩) hHeld ?_
              rotate_left
              focus (intro wS hSw; (try dsimp only at hSw); go_simp; first | done | with_reducible rfl)
              try go_simp
              refine wpAnyH_take (i := 11) (v := ?_) rfl (by kernel_rfl) (by kernel_rfl) (by kernel_rfl) (fun _ _ _ h => h) (Or.inl ⟨by kernel_rfl, ?_⟩) hHeld ?_
              rotate_left
              focus (intro wS hSw; (try dsimp only at hSw); go_simp; first | done | with_reducible rfl)
              try go_simp
              refine wpAnyH_take (i := 12) (v := ?_) rfl (by kernel_rfl) (by kernel_rfl) (by kernel_rfl) (fun _ _ _ h => h) (Or.inl ⟨by kernel_rfl, ?_⟩) hHeld ?_
              rotate_left
              focus (intro wS hSw; (try dsimp only at hSw); go_simp; first | done | with_reducible rfl)
              try go_simp
              refine wpAnyH_take (i := 13) (v := ?_) rfl (by kernel_rfl) (by kernel_rfl) (by kernel_rfl) (fun _ _ _ h => h) (Or.inl ⟨by kernel_rfl, ?_⟩) hHeld ?_
              rotate_left
              focus (intro wS hSw; (try dsimp only at hSw); go_simp; first | done | with_reducible rfl)
              try go_simp
              refine wpAnyH_ready (rs := [9]) (by kernel_rfl) (by simp) (AllReadyH.cons rfl (fun K hK => ?_) AllReadyH.nil)
              go_simp
              go_wp2_with ((go_at_call 85; refine (HAC.out _ _ (HCL.out _ hq.drew)).mono ?_; rintro e w9 ⟨rfl, b9⟩))
              refine hK.out _ _ (HSG.out _ (hq.drew.below b9)) (fun hHeld => ?_)
              clear hK K
              have h9 := hq.drew.below b9
              have x9 := x7.drew.below b9
              refine wpAnyH_take (i := 14) (v := ?_) rfl (by kernel_rfl) (by kernel_rfl) (by kernel_rfl) (fun _ _ _ h => h) (Or.inl ⟨by kernel_rfl, ?_⟩) hHeld ?_
              rotate_left
              focus (intro wS hSw; (try dsimp only at hSw); go_simp; first | done | with_reducible rfl)
              try go_simp
              refine wpAnyH_take (i := 15) (v := ?_) rfl (by kernel_rfl) (by kernel_rfl) (by kernel_rfl) (fun _ _ _ h => h) (Or.inl ⟨by kernel_rfl, ?_⟩) hHeld ?_
              rotate_left
              focus (intro wS hSw; (try dsimp only at hSw); go_simp; first | done | with_reducible rfl)
              try go_simp
              refine wpAnyH_take (i := 16) (v := ?_) rfl (by kernel_rfl) (by kernel_rfl) (by kernel_rfl) (fun _ _ _ h => h) (Or.inl ⟨by kernel_rfl, ?_⟩) hHeld ?_
              rotate_left
              focus (intro wS hSw; (try dsimp only at hSw); go_simp; first | done | with_reducible rfl)
              try go_simp
              refine wpAnyH_take (i := 17) (v := ?_) rfl (by kernel_rfl) (by kernel_rfl) (by kernel_rfl) (fun _ _ _ h => h) (Or.inl ⟨by kernel_rfl, ?_⟩) hHeld ?_
              rotate_left
              focus (intro wS hSw; (try dsimp only at hSw); go_simp; first | done | with_reducible rfl)
              try go_simp
              refine wpAnyH_take (i := 18) (v := ?_) rfl (by kernel_rfl) (by kernel_rfl) (by kernel_rfl) (fun _ _ _ h => h) (Or.inl ⟨by kernel_rfl, ?_⟩) hHeld ?_
              rotate_left
              focus (intro wS hSw; (try dsimp only at hSw); go_simp; first | done | with_reducible rfl)
              try go_simp
              refine wpAnyH_take (i := 19) (v := ?_) rfl (by kernel_rfl) (by kernel_rfl) (by kernel_rfl) (fun _ _ _ h => h) (Or.inl ⟨by kernel_rfl, ?_⟩) hHeld ?_
              rotate_left
              focus (intro wS hSw; (try dsimp only at hSw); go_simp; first | done | with_reducible rfl)
              try go_simp
              refine wpAnyH_take (i := 20) (v := ?_) rfl (by kernel_rfl) (by kernel_rfl) (by kernel_rfl) (fun _ _ _ h => h) (Or.inl ⟨by kernel_rfl, ?_⟩) hHeld ?_
              rotate_left
              focus (intro wS hSw; (try dsimp only at hSw); go_simp; first | done | with_reducible rfl)
              try go_simp
              refine wpAnyH_take (i := 22) (v := ?_) rfl (by kernel_rfl) (by kernel_rfl) (by kernel_rfl) (fun _ _ _ h => h) (Or.inl ⟨by kernel_rfl, ?_⟩) hHeld ?_
              rotate_left
              focus (intro wS hSw; (try dsimp only at hSw); go_simp; first | done | with_reducible rfl)
              try go_simp
              refine wpAnyH_take (i := 23) (v := ?_) rfl (by kernel_rfl) (by kernel_rfl) (by kernel_rfl) (fun _ _ _ h => h) (Or.inl ⟨by kernel_rfl, ?_⟩) hHeld ?_
              rotate_left
              focus (intro wS hSw; (try dsimp only at hSw); go_simp; first | done | with_reducible rfl)
              try go_simp
              refine wpAnyH_take (i := 24) (v := ?_) rfl (by kernel_rfl) (by kernel_rfl) (by kernel_rfl) (fun _ _ _ h => h) (Or.inl ⟨by kernel_rfl, ?_⟩) hHeld ?_
              rotate_left
              focus (intro wS hSw; (try dsimp only at hSw); go_simp; first | done | with_reducible rfl)
              try go_simp
              refine wpAnyH_take (i := 25) (v := ?_) rfl (by kernel_rfl) (by kernel_rfl) (by kernel_rfl) (fun _ _ _ h => h) (Or.inl ⟨by kernel_rfl, ?_⟩) hHeld ?_
              rotate_left
              focus (intro wS hSw; (try dsimp only at hSw); go_simp; first | done | with_reducible rfl)
              try go_simp
              refine wpAnyH_ready (rs := [21]) (by kernel_rfl) (by simp) (AllReadyH.cons rfl (fun K hK => ?_) AllReadyH.nil)
              go_simp
              go_wp2_with ((go_at_call 77; refine (L1.out _ _ (HTL.out _ h9)).mono ?_; rintro e w10 ⟨A', n', c', rfl, h10, x10⟩))
              refine hK.out _ _ (HSG.out _ (h9.onto h10).right) (fun hHeld => ?_)
              clear hK K
              have h10' := h9.onto h10
              have h10'' := Has.eq h10' (congrArg (fun P => lrow (.slice A' n' c') l' * P) (star_left_comm (coreBlk c0 (.slice (some ⟨g, go, none⟩) l'.length cc) k') (rrow (.slice (some ⟨g, go, none⟩) l'.length cc) l') _))
              refine wpAnyH_ready (rs := [26]) (by kernel_rfl) (by simp) (AllReadyH.cons rfl (fun K hK => ?_) AllReadyH.nil)
              go_simp
              go_wp2_with ((go_at_call 86; refine (sameLines_any l' A' _ n' c' _ cc _ _ h10'').mono ?_; rintro e w11 ⟨rfl, b11⟩))
              refine hK.out _ _ (HSG.out _ (h10'.below b11).right) (fun hHeld => ?_)
              clear hK K
              have h11 := (h10'.below b11).right
              have x11 := (x9.trans x10).below b11
              refine wpAnyH_take (i := 27) (v := ?_) rfl (by kernel_rfl) (by kernel_rfl) (by kernel_rfl) (fun _ _ _ h => h) (Or.inl ⟨by kernel_rfl, ?_⟩) hHeld ?_
              rotate_left
              focus (intro wS hSw; (try dsimp only at hSw); go_simp; first | done | with_reducible rfl)
              try go_simp
              refine wpAnyH_take (i := 28) (v := ?_) rfl (by kernel_rfl) (by kernel_rfl) (by kernel_rfl) (fun _ _ _ h => h) (Or.inl ⟨by kernel_rfl, ?_⟩) hHeld ?_
              rotate_left
              focus (intro wS hSw; (try dsimp only at hSw); go_simp; first | done | with_reducible rfl)
              try go_simp
              refine wpAnyH_take (i := 29) (v := ?_) rfl (by kernel_rfl) (by kernel_rfl) (by kernel_rfl) (fun _ _ _ h => h) (Or.inl ⟨by kernel_rfl, ?_⟩) hHeld ?_
              rotate_left
              focus (intro wS hSw; (try dsimp only at hSw); go_simp; first | done | with_reducible rfl)
              try go_simp
              refine wpAnyH_take (i := 30) (v := ?_) rfl (by kernel_rfl) (by kernel_rfl) (by kernel_rfl) (fun _ _ _ h => h) (Or.inl ⟨by kernel_rfl, ?_⟩) hHeld ?_
              rotate_left
              focus (intro wS hSw; (try dsimp only at hSw); go_simp; first | done | with_reducible rfl)
              try go_simp
              refine wpAnyH_take (i := 31) (v := ?_) rfl (by kernel_rfl) (by kernel_rfl) (by kernel_rfl) (fun _ _ _ h => h) (Or.inl ⟨by kernel_rfl, ?_⟩) hHeld ?_
              rotate_left
              focus (intro wS hSw; (try dsimp only at hSw); go_simp; first | done | with_reducible rfl)
              try go_simp
              refine wpAnyH_take (i := 32) (v := ?_) rfl (by kernel_rfl) (by kernel_rfl) (by kernel_rfl) (fun _ _ _ h => h) (Or.inl ⟨by kernel_rfl, ?_⟩) hHeld ?_
              rotate_left
              focus (intro wS hSw; (try dsimp only at hSw); go_simp; first | done | with_reducible rfl)
              try go_simp
              refine wpAnyH_take (i := 33) (v := ?_) rfl (by kernel_rfl) (by kernel_rfl) (by kernel_rfl) (fun _ _ _ h => h) (Or.inl ⟨by kernel_rfl, ?_⟩) hHeld ?_
              rotate_left
              focus (intro wS hSw; (try dsimp only at hSw); go_simp; first | done | with_reducible rfl)
              try go_simp
              refine wpAnyH_take (i := 34) (v := ?_) rfl (by kernel_rfl) (by kernel_rfl) (by kernel_rfl) (fun _ _ _ h => h) (Or.inl ⟨by kernel_rfl, ?_⟩) hHeld ?_
              rotate_left
              focus (intro wS hSw; (try dsimp only at hSw); go_simp; first | done | with_reducible rfl)
              try go_simp
              refine wpAnyH_take (i := 35) (v := ?_) rfl (by kernel_rfl) (by kernel_rfl) (by kernel_rfl) (fun _ _ _ h => h) (Or.inl ⟨by kernel_rfl, ?_⟩) hHeld ?_
              rotate_left
              focus (intro wS hSw; (try dsimp only at hSw); go_simp; first | done | with_reducible rfl)
              try go_simp
              refine wpAnyH_take (i := 36) (v := ?_) rfl (by kernel_rfl) (by kernel_rfl) (by kernel_rfl) (fun _ _ _ h => h) (Or.inl ⟨by kernel_rfl, ?_⟩) hHeld ?_
              rotate_left
              focus (intro wS hSw; (try dsimp only at hSw); go_simp; first | done | with_reducible rfl)
              try go_simp
              refine wpAnyH_take (i := 37) (v := ?_) rfl (by kernel_rfl) (by kernel_rfl) (by kernel_rfl) (fun _ _ _ h => h) (Or.inl ⟨by kernel_rfl, ?_⟩) hHeld ?_
              rotate_left
              focus (intro wS hSw; (try dsimp only at hSw); go_simp; first | done | with_reducible rfl)
              try go_simp
              refine wpAnyH_take (i := 38) (v := ?_) rfl (by kernel_rfl) (by kernel_rfl) (by kernel_rfl) (fun _ _ _ h => h) (Or.inl ⟨by kernel_rfl, ?_⟩) hHeld ?_
              rotate_left
              focus (intro wS hSw; (try dsimp only at hSw); go_simp; first | done | with_reducible rfl)
              try go_simp
              refine wpAnyH_take (i := 39) (v := ?_) rfl (by kernel_rfl) (by kernel_rfl) (by kernel_rfl) (fun _ _ _ h => h) (Or.inl ⟨by kernel_rfl, ?_⟩) hHeld ?_
              rotate_left
              focus (intro wS hSw; (try dsimp only at hSw); go_simp; first | done | with_reducible rfl)
              try go_simp
              refine wpAnyH_take (i := 40) (v := ?_) rfl (by kernel_rfl) (by kernel_rfl) (by kernel_rfl) (fun _ _ _ h => h) (Or.inl ⟨by kernel_rfl, ?_⟩) hHeld ?_
              rotate_left
              focus (intro wS hSw; (try dsimp only at hSw); go_simp; first | done | with_reducible rfl)
              try go_simp
              refine wpAnyH_take (i := 41) (v := ?_) rfl (by kernel_rfl) (by kernel_rfl) (by kernel_rfl) (fun _ _ _ h => h) (Or.inl ⟨by kernel_rfl, ?_⟩) hHeld ?_
              rotate_left
              focus (intro wS hSw; (try dsimp only at hSw); go_simp; first | done | with_reducible rfl)
              try go_simp
              refine wpAnyH_take (i := 42) (v := ?_) rfl (by kernel_rfl) (by kernel_rfl) (by kernel_rfl) (fun _ _ _ h => h) (Or.inl ⟨by kernel_rfl, ?_⟩) hHeld ?_
              rotate_left
              focus (intro wS hSw; (try dsimp only at hSw); go_simp; first | done | with_reducible rfl)
              try go_simp
              refine wpAnyH_take (i := 43) (v := ?_) rfl (by kernel_rfl) (by kernel_rfl) (by kernel_rfl) (fun _ _ _ h => h) (Or.inl ⟨by kernel_rfl, ?_⟩) hHeld ?_
              rotate_left
              focus (intro wS hSw; (try dsimp only at hSw); go_simp; first | done | with_reducible rfl)
              try go_simp
              refine wpAnyH_take (i := 44) (v := ?_) rfl (by kernel_rfl) (by kernel_rfl) (by kernel_rfl) (fun _ _ _ h => h) (Or.inl ⟨by kernel_rfl, ?_⟩) hHeld ?_
              rotate_left
              focus (intro wS hSw; (try dsimp only at hSw); go_simp; first | done | with_reducible rfl)
              try go_simp
              refine wpAnyH_take (i := 45) (v := ?_) rfl (by kernel_rfl) (by kernel_rfl) (by kernel_rfl) (fun _ _ _ h => h) (Or.inl ⟨by kernel_rfl, ?_⟩) hHeld ?_
              rotate_left
              focus (intro wS hSw; (try dsimp only at hSw); go_simp; first | done | with_reducible rfl)
              try go_simp
              refine wpAnyH_take (i := 46) (v := ?_) rfl (by kernel_rfl) (by kernel_rfl) (by kernel_rfl) (fun _ _ _ h => h) (Or.inl ⟨by kernel_rfl, ?_⟩) hHeld ?_
              rotate_left
              focus (intro wS hSw; (try dsimp only at hSw); go_simp; first | done | with_reducible rfl)
              try go_simp
              refine wpAnyH_take (i := 47) (v := ?_) rfl (by kernel_rfl) (by kernel_rfl) (by kernel_rfl) (fun _ _ _ h => h) (Or.inl ⟨by kernel_rfl, ?_⟩) hHeld ?_
              rotate_left
              focus (intro wS hSw; (try dsimp only at hSw); go_simp; first | done | with_reducible rfl)
              try go_simp
              refine wpAnyH_take (i := 48) (v := ?_) rfl (by kernel_rfl) (by kernel_rfl) (by kernel_rfl) (fun _ _ _ h => h) (Or.inl ⟨by kernel_rfl, ?_⟩) hHeld ?_
              rotate_left
              focus (intro wS hSw; (try dsimp only at hSw); go_simp; first | done | with_reducible rfl)
              try go_simp
              refine wpAnyH_take (i := 49) (v := ?_) rfl (by kernel_rfl) (by kernel_rfl) (by kernel_rfl) (fun _ _ _ h => h) (Or.inl ⟨by kernel_rfl, ?_⟩) hHeld ?_
              rotate_left
              focus (intro wS hSw; (try dsimp only at hSw); go_simp; first | done | with_reducible rfl)
              try go_simp
              refine wpAnyH_take (i := 50) (v := ?_) rfl (by kernel_rfl) (by kernel_rfl) (by kernel_rfl) (fun _ _ _ h => h) (Or.inl ⟨by kernel_rfl, ?_⟩) hHeld ?_
              rotate_left
              focus (intro wS hSw; (try dsimp only at hSw); go_simp; first | done | with_reducible rfl)
              try go_simp
              refine wpAnyH_done (by kernel_rfl) ?_ _
              go_wp2_with fail
              go_roundw
              case rel => exact ⟨i + 1, k', s', l', by omega, by go_num, hk', hs', hl', HEND.out _ h11, x11⟩
              case measure => simp [intOf]; omega
        --F]
    · obtain rfl : i = m := by omega
      have SW := Lib.hid (fun R w h => sameWords_any f q ss ss (Agree.refl ss) hss.small R w h)
      go_wp2_with fail
      refine (SW.out _ _ (hr.right.eq (show _ = framesAt f ss * (memAt q ss * (coreAt c0 l kk * old w w.heap.size)) by ac_rfl))).mono ?_; rintro e w9 ⟨rfl, rfl⟩
      go_wp2_with fail
      go_ret
      exact ⟨rfl, below_of1 hr.right.right.right.right hx⟩
end Go.Proofs.Ytndhgomikpokpaa
