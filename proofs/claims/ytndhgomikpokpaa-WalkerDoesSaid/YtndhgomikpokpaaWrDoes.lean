/- The law WalkerDoes: the walk. -/
import Derived.Test.YtndhgomikpokpaaCoreS5
import Derived.Test.YtndhgomikpokpaaWrSame
import Derived.Test.YtndhgomikpokpaaSameW
namespace Go.Proofs.Ytndhgomikpokpaa
open Go.RowKit
set_option maxRecDepth 100000

set_option maxHeartbeats 8000000 in
theorem walkerDoes_walk (N T : Int) (A : Option Addr) (n c : Nat) (l : List Int) (root : Int) (B : Option Addr) (m d : Nat) (L : List Wst) (w : World) (_ : i64 N) (_ : i64 T) (h : Arr w A n 1 (l.map cellsU)) (hok : ∀ x ∈ l, u64 x) (_ : i64 root)
    (h2 : Arr w B m 7 (L.map Wst.cells)) (hok2 : ∀ x ∈ L, x.ok) :
    Calls Try.prog 7 #[(Value.int .i64) N, (Value.int .i64) T, .slice A n c, (Value.int .i64) root, .slice B m d] w (Pure (Value.bool true) w) := by
  have hm := h.2.1
  have hm2 := h2.2.1
  have hA := Lib.hid h
  have hB := Lib.hid h2
  have hL := Lib.hid (show L.length = m by simpa using h2.1)
  clear h h2
  have h0 := has_old w
  have HB := Lib.hid (walkerBegun_any w)
  by_cases hN0 : N < 0
  · go_enter Try.func7, Try.ntmps7
    go_wp2_with (refine HB.out.mono ?_; rintro e w1 ⟨rfl, hb⟩)
    go_ret
    exact ⟨rfl, hb⟩
  by_cases hN1 : 128 < N
  · go_enter Try.func7, Try.ntmps7
    go_wp2_with (refine HB.out.mono ?_; rintro e w1 ⟨rfl, hb⟩)
    go_ret
    exact ⟨rfl, hb⟩
  by_cases hbig : 2000 < n
  · go_enter Try.func7, Try.ntmps7
    go_wp2_with (refine HB.out.mono ?_; rintro e w1 ⟨rfl, hb⟩)
    go_ret
    exact ⟨rfl, hb⟩
  by_cases hbig2 : 300 < m
  · go_enter Try.func7, Try.ntmps7
    go_wp2_with (refine HB.out.mono ?_; rintro e w1 ⟨rfl, hb⟩)
    go_ret
    exact ⟨rfl, hb⟩
  have hs := memS_ok (n := N) (taken := T) (ws := l) (by omega) (by omega) hok
  go_enter Try.func7, Try.ntmps7
  go_wp2_with fail
  refine HB.out.mono ?_; rintro e w1 ⟨rfl, hb⟩
  have h1 := h0.below hb
  have x1 := (Ext.refl w).below hb
  have hA1 := hA.out.old1 h1 x1
  clear h0 hb
  go_wp2_with fail
  refine (memory_any N T A n c l _ (by omega) (by omega) hA1 hok).mono ?_; rintro e w2 ⟨f, q, rfl, h2, x2⟩
  have h3 := (h1.onto' h2.a2).a1
  have x3 := x1.trans x2
  clear h1 x1 h2 x2 hA1 hA
  generalize memS N T l = s at *
  go_wp2_with fail
  refine (newW root _ _ h3).mono ?_; rintro e w4 ⟨k, rfl, h4, x4⟩
  have x5 := (x3.trans x4).alloc (.cells #[.slice none 0 0, Value.bool false, (Value.int .i64) 0, (Value.int .i64) 0, Value.bool false, (Value.int .i64) 0, (Value.int .i64) 0, Value.bool false, (Value.int .u64) 0] 94)
  have h5 : Has (w4.alloc (.cells #[.slice none 0 0, Value.bool false, (Value.int .i64) 0, (Value.int .i64) 0, Value.bool false, (Value.int .i64) 0, (Value.int .i64) 0, Value.bool false, (Value.int .u64) 0] 94)) (coreAt w4.heap.size [] Ck.zero * (walkerAt k root Ck.zero * (framesAt f s * (memAt q s * old w w.heap.size)))) :=
    coreAt_shut (A := none) (c := 0) (Has.p2 (Has.rowONil (h4.new #[.slice none 0 0, Value.bool false, (Value.int .i64) 0, (Value.int .i64) 0, Value.bool false, (Value.int .i64) 0, (Value.int .i64) 0, Value.bool false, (Value.int .u64) 0] 94)))
  generalize hc0 : w4.heap.size = c0 at h5
  have HC0 := Lib.hid hc0
  clear hc0 h3 x3 h4 x4
  go_wp2_with fail
  rw [HC0.out]
  go_loopw [15] (fun t wr => ∃ (i : Nat) (kk : Ck) (ss : Ms), i ≤ m ∧ t = (Value.int .i64) i ∧ kk.Ok ∧ ss.Ok ∧ Has wr (walkerAt k root kk * (framesAt f ss * (coreAt c0 [] kk * (memAt q ss * old w w.heap.size)))) ∧ Ext w wr) (fun t _ => m - (intOf t).toNat)
  case atStart => exact ⟨0, Ck.zero, s, by omega, rfl, Ck.Ok.zero, hs, h5.eq (by ac_rfl), x5⟩
  case round =>
    clear h5 x5 hs
    obtain ⟨i, kk, ss, hi, rfl, hkk, hss, hr, hx⟩ := hrel
    by_cases hlt : i < m
    · have hil : i < L.length := by have := hL.out; omega
      obtain ⟨b, off, hb, hbl, hc⟩ := (hB.out.old1 hr.right.right.right.right hx).at_ (i := i) (xs := (L[i]).cells) (by simp [hil])
      have ho := hok2 _ (List.getElem_mem hil)
      generalize L[i] = x at hc ho
      obtain ⟨hop, hK, hI, hW, hAc⟩ := ho
      have d0 : wr.cell? ⟨b, off + i * 7, none⟩ = some ((Value.int .i64) x.op) := hc 0 _ rfl
      have d1 : wr.cell? ⟨b, off + i * 7 + 1, none⟩ = some ((Value.int .i64) x.k) := hc 1 _ rfl
      have d2 : wr.cell? ⟨b, off + i * 7 + 2, none⟩ = some ((Value.int .i64) x.i) := hc 2 _ rfl
      have d3 : wr.cell? ⟨b, off + i * 7 + 3, none⟩ = some ((Value.int .u64) x.w) := hc 3 _ rfl
      have d4 : wr.cell? ⟨b, off + i * 7 + 4, none⟩ = some ((Value.int .i64) x.a.page) := hc 4 _ rfl
      have d5 : wr.cell? ⟨b, off + i * 7 + 5, none⟩ = some ((Value.int .i64) x.a.kind) := hc 5 _ rfl
      have d6 : wr.cell? ⟨b, off + i * 7 + 6, none⟩ = some (Value.bool x.a.user) := hc 6 _ rfl
      clear hc
      subst hb
      have hs4 := hr.new #[(Value.int .i64) x.op, (Value.int .i64) x.k, (Value.int .i64) x.i, (Value.int .u64) x.w, (Value.int .i64) x.a.page, (Value.int .i64) x.a.kind, Value.bool x.a.user] 96
      have x2 := hx.alloc (.cells #[(Value.int .i64) x.op, (Value.int .i64) x.k, (Value.int .i64) x.i, (Value.int .u64) x.w, (Value.int .i64) x.a.page, (Value.int .i64) x.a.kind, Value.bool x.a.user] 96)
      go_upto_block 2 with fail
      generalize wr.alloc (.cells #[(Value.int .i64) x.op, (Value.int .i64) x.k, (Value.int .i64) x.i, (Value.int .u64) x.w, (Value.int .i64) x.a.page, (Value.int .i64) x.a.kind, Value.bool x.a.user] 96) = w4' at *
      generalize wr.heap.size = X at *
      clear d0 d1 d2 d3 d4 d5 d6 hr hx hbl
      have hw : Has w4' (walkerAt k root kk * (framesAt f ss * (coreAt c0 [] kk * (memAt q ss * (blk X #[(Value.int .i64) x.op, (Value.int .i64) x.k, (Value.int .i64) x.i, (Value.int .u64) x.w, (Value.int .i64) x.a.page, (Value.int .i64) x.a.kind, Value.bool x.a.user] 96 * old w w.heap.size))))) := hs4.eq (by ac_rfl)
      obtain ⟨c1, c2, c3, c4, c5, c6, c7⟩ : w4'.cell? ⟨X, 0, none⟩ = some ((Value.int .i64) x.op) ∧ w4'.cell? ⟨X, 1, none⟩ = some ((Value.int .i64) x.k) ∧ w4'.cell? ⟨X, 2, none⟩ = some ((Value.int .i64) x.i) ∧ w4'.cell? ⟨X, 3, none⟩ = some ((Value.int .u64) x.w) ∧ w4'.cell? ⟨X, 4, none⟩ = some ((Value.int .i64) x.a.page) ∧ w4'.cell? ⟨X, 5, none⟩ = some ((Value.int .i64) x.a.kind) ∧ w4'.cell? ⟨X, 6, none⟩ = some (Value.bool x.a.user) := ⟨hs4.cell 0, hs4.cell 1, hs4.cell 2, hs4.cell 3, hs4.cell 4, hs4.cell 5, hs4.cell 6⟩
      have cl := hs4.lt
      clear hs4
      go_cut [] (fun wx => ∃ (k' : Ck) (s' : Ms), k'.Ok ∧ s'.Ok ∧ Has wx (walkerAt k root k' * (framesAt f s' * (coreAt c0 [] k' * (memAt q s' * (blk X #[(Value.int .i64) x.op, (Value.int .i64) x.k, (Value.int .i64) x.i, (Value.int .u64) x.w, (Value.int .i64) x.a.page, (Value.int .i64) x.a.kind, Value.bool x.a.user] 96 * old w w.heap.size))))) ∧ Ext w wx)
      case first =>
        by_cases o0 : x.op = 0
        · --[A
          have HC := Lib.hid (fun Y => accessFault_any x.a.page x.a.kind x.a.user Y)
          rw [show (⟨x.a.page, x.a.kind, x.a.user⟩ : Ac) = x.a from rfl] at HC
          have BG := Lib.hid (fun R w h => beginW k root kk x.a R w h)
          obtain ⟨AA, cc, h3⟩ := coreAt_open hw.right.right
          obtain ⟨q1, _, _, _, _, _, _, _, ql⟩ := core_cells h3
          clear h3
          have hXc : ∀ (w' : World) (P : HProp), Has w' (P * (blk X #[(Value.int .i64) x.op, (Value.int .i64) x.k, (Value.int .i64) x.i, (Value.int .u64) x.w, (Value.int .i64) x.a.page, (Value.int .i64) x.a.kind, Value.bool x.a.user] 96 * old w w.heap.size)) → w'.cell? ⟨X, 4, none⟩ = some ((Value.int .i64) x.a.page) ∧ w'.cell? ⟨X, 5, none⟩ = some ((Value.int .i64) x.a.kind) ∧ w'.cell? ⟨X, 6, none⟩ = some (Value.bool x.a.user) ∧ X < w'.heap.size := fun _ _ h => ⟨h.right.cell 4, h.right.cell 5, h.right.cell 6, h.right.lt⟩
          have HXC := Lib.hid hXc
          clear hXc
          have hXw : ∀ (w' : World) (P Q S U : HProp), Has w' (P * (Q * (S * (U * (blk X #[(Value.int .i64) x.op, (Value.int .i64) x.k, (Value.int .i64) x.i, (Value.int .u64) x.w, (Value.int .i64) x.a.page, (Value.int .i64) x.a.kind, Value.bool x.a.user] 96 * old w w.heap.size))))) → Has w' (U * (blk X #[(Value.int .i64) x.op, (Value.int .i64) x.k, (Value.int .i64) x.i, (Value.int .u64) x.w, (Value.int .i64) x.a.page, (Value.int .i64) x.a.kind, Value.bool x.a.user] 96 * old w w.heap.size)) := fun _ _ _ _ _ h => h.right.right.right
          have HXW := Lib.hid hXw
          clear hXw
          by_cases hck : checkAccess x.a = 0
          · rw [hck] at HC
            cases hon : kk.on with
            | true =>
              have hb : begC kk x.a = 8 ∧ begS kk root x.a = kk := by
                have h8 : begC kk x.a = 8 := by unfold begC; rw [if_neg (by omega), if_pos hon]
                exact ⟨h8, by unfold begS; rw [h8]; rfl⟩
              rw [hb.1, hb.2] at BG
              rw [hon] at q1
              clear hb hon hck
              generalize x.op = op at *
              subst o0
              go_wp2_with fail
              refine (HC.out _).mono ?_; rintro e w5 ⟨rfl, b5⟩
              have h5 := hw.below b5
              have x5 := x2.below b5
              obtain ⟨y4, y5, y6, yl⟩ := HXC.out _ _ (HXW.out _ _ _ _ _ h5)
              go_wp2_with fail
              refine (BG.out _ _ h5).mono ?_; rintro e w6 ⟨rfl, h6, x6⟩
              go_wp2_with fail
              go_meet
              case rel => exact ⟨kk, ss, hkk, hss, h6, x5.trans x6⟩
            | false =>
              have hb : begC kk x.a = 0 ∧ begS kk root x.a = kk.begin root x.a := by
                have h8 : begC kk x.a = 0 := by rw [begC_off hon]; exact hck
                exact ⟨h8, by unfold begS; rw [h8]; rfl⟩
              rw [hb.1, hb.2] at BG
              rw [hon] at q1
              have BR := Lib.hid (fun R w h => beginR0 c0 root kk x.a hck hAc.1 hon R w h)
              have HOK := Lib.hid (Ck.Ok.begin (c := kk) root hck)
              clear hb hon hck
              generalize x.op = op at *
              subst o0
              go_wp2_with fail
              refine (HC.out _).mono ?_; rintro e w5 ⟨rfl, b5⟩
              have h5 := hw.below b5
              have x5 := x2.below b5
              obtain ⟨y4, y5, y6, yl⟩ := HXC.out _ _ (HXW.out _ _ _ _ _ h5)
              have h5' : Has w5 (coreAt c0 [] kk * (walkerAt k root kk * (framesAt f ss * (memAt q ss * (blk X #[(Value.int .i64) 0, (Value.int .i64) x.k, (Value.int .i64) x.i, (Value.int .u64) x.w, (Value.int .i64) x.a.page, (Value.int .i64) x.a.kind, Value.bool x.a.user] 96 * old w w.heap.size))))) := h5.eq (by ac_rfl)
              go_wp2_with fail
              refine (BR.out _ _ h5').mono ?_; rintro e w6 ⟨rfl, h6, x6⟩
              have h6' : Has w6 (walkerAt k root kk * (framesAt f ss * (coreAt c0 [] (kk.begin root x.a) * (memAt q ss * (blk X #[(Value.int .i64) 0, (Value.int .i64) x.k, (Value.int .i64) x.i, (Value.int .u64) x.w, (Value.int .i64) x.a.page, (Value.int .i64) x.a.kind, Value.bool x.a.user] 96 * old w w.heap.size))))) := h6.eq (by ac_rfl)
              clear y4 y5 y6 yl h5 h5' h6
              obtain ⟨y4, y5, y6, yl⟩ := HXC.out _ _ (HXW.out _ _ _ _ _ h6')
              go_wp2_with fail
              refine (BG.out _ _ h6').mono ?_; rintro e w7 ⟨rfl, h7, x7⟩
              go_wp2_with fail
              go_meet
              case rel => exact ⟨kk.begin root x.a, ss, HOK.out, hss, h7, (x5.trans x6).trans x7⟩
          · have hb : begC kk x.a = checkAccess x.a ∧ begS kk root x.a = kk := by
              have h8 : begC kk x.a = checkAccess x.a := by unfold begC; rw [if_pos hck]
              exact ⟨h8, by unfold begS; rw [h8, if_neg hck]⟩
            rw [hb.1, hb.2] at BG
            have hn : (checkAccess x.a == 0) = false := by simpa using hck
            clear hb hck
            generalize checkAccess x.a = ca at *
            generalize x.op = op at *
            subst o0
            cases hon : kk.on <;>
            · rw [hon] at q1
              clear hon
              go_wp2_with fail
              refine (HC.out _).mono ?_; rintro e w5 ⟨rfl, b5⟩
              have h5 := hw.below b5
              have x5 := x2.below b5
              obtain ⟨y4, y5, y6, yl⟩ := HXC.out _ _ (HXW.out _ _ _ _ _ h5)
              go_wp2_with fail
              refine (BG.out _ _ h5).mono ?_; rintro e w6 ⟨rfl, h6, x6⟩
              go_wp2_with fail
              go_meet
              case rel => exact ⟨kk, ss, hkk, hss, h6, x5.trans x6⟩
          --A]
        by_cases o1 : x.op = 1
        · --[B
          have HSR := Lib.hid (fun X R w h => stepR c0 q X root [] kk ss hss hkk R w h)
          have HSW := Lib.hid (fun R w h => stepW k f root kk ss hss hkk R w h)
          have HO1 := Lib.hid (hkk.step ss root)
          have HO2 := Lib.hid (stepC_ok hss root kk)
          generalize stepC ss root kk = p at *
          obtain ⟨k', s', ⟨fin, ⟨af, afr, ari⟩, ⟨⟨p0, p1, p2, p3⟩, d⟩⟩, code⟩ := p
          dsimp only [RsV] at HSR HSW HO1 HO2
          generalize x.op = op at *
          subst o1
          have h5 : Has _ (coreAt c0 [] kk * (memAt q ss * (blk w4'.heap.size #[(Value.int .i64) 0, (Value.int .i64) 0, (Value.int .i64) 0, (Value.int .i64) 0, Value.bool false] 99 * (walkerAt k root kk * (framesAt f ss * (blk X #[(Value.int .i64) 1, (Value.int .i64) x.k, (Value.int .i64) x.i, (Value.int .u64) x.w, (Value.int .i64) x.a.page, (Value.int .i64) x.a.kind, Value.bool x.a.user] 96 * old w w.heap.size)))))) := (hw.new #[(Value.int .i64) 0, (Value.int .i64) 0, (Value.int .i64) 0, (Value.int .i64) 0, Value.bool false] 99).eq (by ac_rfl)
          have x5 := x2.alloc (.cells #[(Value.int .i64) 0, (Value.int .i64) 0, (Value.int .i64) 0, (Value.int .i64) 0, Value.bool false] 99)
          clear hw x2 c1 c2 c3 c4 c5 c6 c7 cl
          go_upto_region 25 with fail
          generalize w4'.alloc (.cells #[(Value.int .i64) 0, (Value.int .i64) 0, (Value.int .i64) 0, (Value.int .i64) 0, Value.bool false] 99) = w5 at *
          generalize w4'.heap.size = Y at *
          go_wp2_with fail
          refine (HSR.out _ _ _ h5).mono ?_; rintro e w6 ⟨rfl, h6, x6⟩
          have h7 : Has _ (walkerAt k root kk * (framesAt f ss * (blk w6.heap.size #[(Value.int .i64) af, (Value.int .i64) afr, (Value.int .i64) ari] 49 * (coreAt c0 [] k' * (memAt q s' * (blk Y #[(Value.int .i64) p0, (Value.int .i64) p1, (Value.int .i64) p2, (Value.int .i64) p3, Value.bool d] 99 * (blk X #[(Value.int .i64) 1, (Value.int .i64) x.k, (Value.int .i64) x.i, (Value.int .u64) x.w, (Value.int .i64) x.a.page, (Value.int .i64) x.a.kind, Value.bool x.a.user] 96 * old w w.heap.size))))))) := (h6.new #[(Value.int .i64) af, (Value.int .i64) afr, (Value.int .i64) ari] 49).eq (by ac_rfl)
          have x7 := (x5.trans x6).alloc (.cells #[(Value.int .i64) af, (Value.int .i64) afr, (Value.int .i64) ari] 49)
          clear h5 h6 x5 x6 HSR
          go_upto_region 26 with fail
          generalize w6.alloc (.cells #[(Value.int .i64) af, (Value.int .i64) afr, (Value.int .i64) ari] 49) = w7 at *
          generalize w6.heap.size = Z at *
          go_wp2_with fail
          refine (HSW.out _ _ h7).mono ?_; rintro e w8 ⟨rfl, h8, x8⟩
          have h9 : Has _ (blk w8.heap.size #[Value.bool fin, (Value.int .i64) af, (Value.int .i64) afr, (Value.int .i64) ari, (Value.int .i64) p0, (Value.int .i64) p1, (Value.int .i64) p2, (Value.int .i64) p3, Value.bool d] 53 * (blk Z #[(Value.int .i64) af, (Value.int .i64) afr, (Value.int .i64) ari] 49 * (blk Y #[(Value.int .i64) p0, (Value.int .i64) p1, (Value.int .i64) p2, (Value.int .i64) p3, Value.bool d] 99 * (walkerAt k root k' * (framesAt f s' * (coreAt c0 [] k' * (memAt q s' * (blk X #[(Value.int .i64) 1, (Value.int .i64) x.k, (Value.int .i64) x.i, (Value.int .u64) x.w, (Value.int .i64) x.a.page, (Value.int .i64) x.a.kind, Value.bool x.a.user] 96 * old w w.heap.size)))))))) := (h8.new #[Value.bool fin, (Value.int .i64) af, (Value.int .i64) afr, (Value.int .i64) ari, (Value.int .i64) p0, (Value.int .i64) p1, (Value.int .i64) p2, (Value.int .i64) p3, Value.bool d] 53).eq (by ac_rfl)
          have x9 := (x7.trans x8).alloc (.cells #[Value.bool fin, (Value.int .i64) af, (Value.int .i64) afr, (Value.int .i64) ari, (Value.int .i64) p0, (Value.int .i64) p1, (Value.int .i64) p2, (Value.int .i64) p3, Value.bool d] 53)
          clear h7 h8 x7 x8 HSW
          go_upto_region 27 with fail
          generalize w8.alloc (.cells #[Value.bool fin, (Value.int .i64) af, (Value.int .i64) afr, (Value.int .i64) ari, (Value.int .i64) p0, (Value.int .i64) p1, (Value.int .i64) p2, (Value.int .i64) p3, Value.bool d] 53) = w9 at *
          generalize w8.heap.size = V at *
          obtain ⟨r0, r1, r2, r3, r4, r5, r6, r7, r8⟩ := h9.cells9
          obtain ⟨s0, s1, s2⟩ := h9.right.cells3
          obtain ⟨t0, t1, t2, t3, t4⟩ := h9.right.right.cells5
          have rl := h9.lt
          have sl := h9.right.lt
          have tl := h9.right.right.lt
          go_wp2_with fail
          go_meet
          case rel => exact ⟨k', s', HO1.out, HO2.out, h9.right.right.right, x9⟩
          --B]
        by_cases o2 : x.op = 2
        · generalize x.op = op at *
          subst o2
          go_wp2_with fail
          refine (againW k root kk _ _ hw).mono ?_; rintro e w5 ⟨rfl, h5, x5⟩
          have h6 : Has w5 (coreAt c0 [] kk * (walkerAt k root (kk.again root) * (framesAt f ss * (memAt q ss * (blk X #[(Value.int .i64) 2, (Value.int .i64) x.k, (Value.int .i64) x.i, (Value.int .u64) x.w, (Value.int .i64) x.a.page, (Value.int .i64) x.a.kind, Value.bool x.a.user] 96 * old w w.heap.size))))) := h5.eq (by ac_rfl)
          go_wp2_with fail
          refine (againR c0 root [] kk _ _ h6).mono ?_; rintro e w7 ⟨rfl, h7, x7⟩
          go_wp2_with fail
          go_meet
          case rel => exact ⟨kk.again root, ss, hkk.again root, hss, h7.eq (by ac_rfl), (x2.trans x5).trans x7⟩
        by_cases o3 : x.op = 3
        · --[C
          cases hh : ss.hasW x.k x.i with
          | false =>
            have he : storeS ss x.k x.i x.w = ss := by unfold storeS; rw [if_neg (by rw [hh]; simp)]
            have HST := Lib.hid (fun R w h => storeF f ss x.k x.i x.w R w h)
            rw [he, hh] at HST
            clear he hh
            generalize x.op = op at *
            subst o3
            go_wp2_with fail
            refine (HST.out _ _ hw.p2).mono ?_; rintro e w5 ⟨rfl, h5, x5⟩
            go_wp2_with fail
            go_meet
            case rel => exact ⟨kk, ss, hkk, hss, h5.p2, x2.trans x5⟩
          | true =>
            obtain ⟨hk, hq0, hq8⟩ := hasW_iff.1 hh
            obtain ⟨k0, k1, _⟩ := Ms.has_iff.1 hk
            have he : storeS ss x.k x.i x.w = ss.setW x.k.toNat x.i.toNat x.w := by unfold storeS; rw [if_pos hh]
            have HST := Lib.hid (fun R w h => storeF f ss x.k x.i x.w R w h)
            rw [he, hh] at HST
            have HOK := Lib.hid (hss.setW x.k.toNat x.i.toNat hW)
            clear he hh hk hW hK hI
            generalize x.k = K at *
            generalize x.i = I at *
            generalize x.w = U at *
            obtain ⟨kn, rfl⟩ := Int.eq_ofNat_of_zero_le k0
            obtain ⟨tn, rfl⟩ := Int.eq_ofNat_of_zero_le hq0
            simp only [Int.toNat_natCast] at HST HOK
            generalize x.op = op at *
            subst o3
            go_wp2_with fail
            refine (HST.out _ _ hw.p2).mono ?_; rintro e w5 ⟨rfl, h5, x5⟩
            have h6 : Has w5 (memAt q ss * (blk X #[(Value.int .i64) 3, (Value.int .i64) kn, (Value.int .i64) tn, (Value.int .u64) U, (Value.int .i64) x.a.page, (Value.int .i64) x.a.kind, Value.bool x.a.user] 96 * (walkerAt k root kk * (framesAt f (ss.setW kn tn U) * (coreAt c0 [] kk * old w w.heap.size))))) := h5.eq (by ac_rfl)
            have x6 := x2.trans x5
            clear h5 x5 x2 hw HST c1 c2 c3 c4 c5 c6 c7 cl
            go_upto_region 34 with fail
            obtain ⟨gw, gi, vk, hq⟩ := memAt_open h6
            obtain ⟨q0, q1, q2, q3⟩ := hq.cells4
            have gl := hq.right.lt
            have gf := hq.right.free (kn * 8 + tn)
            have gc := mem_word hq (k := kn) (i := tn) (by omega) (by omega)
            have ql := hq.lt
            have c1 := h6.right.cell 1
            have c2 := h6.right.cell 2
            have c3 := h6.right.cell 3
            have cl := h6.right.lt
            have h7 := memAt_shut (mem_setW hq (k := kn) (i := tn) (by omega) U)
            have hqn := hq.right.ne
            clear hq h6
            go_region
            all_goals
              go_wp2_with fail
              go_meet
              case rel => exact ⟨kk, _, hkk, HOK.out, h7.drew.eq (by ac_rfl), (x6.set _ _).drew⟩
          --C]
        by_cases o4 : x.op = 4
        · generalize x.op = op at *
          subst o4
          go_wp2_with fail
          refine (giveF f ss x.k _ _ hw.p2 hss).mono ?_; rintro e w5 ⟨rfl, h5, x5⟩
          have c2' : w5.cell? ⟨X, 1, none⟩ = some ((Value.int .i64) x.k) := h5.right.right.right.right.cell 1
          have cl' := h5.right.right.right.right.lt
          have h6 : Has w5 (memAt q ss * (walkerAt k root kk * (framesAt f (ss.giveS x.k) * (coreAt c0 [] kk * (blk X #[(Value.int .i64) 4, (Value.int .i64) x.k, (Value.int .i64) x.i, (Value.int .u64) x.w, (Value.int .i64) x.a.page, (Value.int .i64) x.a.kind, Value.bool x.a.user] 96 * old w w.heap.size))))) := h5.eq (by ac_rfl)
          go_wp2_with fail
          refine (giveM q ss x.k _ _ h6 hss).mono ?_; rintro e w7 ⟨rfl, h7, x7⟩
          go_wp2_with fail
          go_meet
          case rel => exact ⟨kk, ss.giveS x.k, hkk, hss.giveS x.k, h7.eq (by ac_rfl), (x2.trans x5).trans x7⟩
        go_wp2_with fail
        go_meet
        case rel => exact ⟨kk, ss, hkk, hss, hw, x2⟩
      case rest =>
        clear hw x2 c1 c2 c3 c4 c5 c6 c7 cl
        obtain ⟨k', s', hk', hs', hw, x2⟩ := hcut
        have HO := Lib.hid (fun R X h => onW k root k' R X h)
        have HAC := Lib.hid (fun R X h => accessW k root k' R X h)
        obtain ⟨AA, cc, h3⟩ := coreAt_open hw.right.right
        obtain ⟨q1, q2, q3, q4, q5, q6, q7, q8, ql⟩ := core_cells h3
        have v1 := via_cell q1
        have v2 := via_cell q2
        have v3 := via_cell q3
        have v4 := via_cell q4
        clear q1 q2 q3 q4 q5 q6 q7 q8 ql h3
        go_upto_region 38 with fail
        refine wp_region_via (by kernel_rfl) (by kernel_rfl) ?_
        repeat (first | go_big_quiet_step ((first | (go_at_call 53; exact Same.via (HO.out _ _ (hw.via _))) | (go_at_call 54; exact Pure.via (HAC.out _ _ (hw.via _))))) | quiet_step ((first | (go_at_call 53; exact Same.via (HO.out _ _ (hw.via _))) | (go_at_call 54; exact Pure.via (HAC.out _ _ (hw.via _))))))
        refine wpQuiet_nil ?_
        intro _ hw'
        obtain ⟨uq, hw''⟩ := hw'
        subst hw''
        have h4 := hw.via uq
        have x4 := x2.below (via_below _ uq)
        generalize via wc uq = w5 at *
        go_wp2_with fail
        go_roundw
        case rel => exact ⟨i + 1, k', s', by omega, by go_num, hk', hs', h4.eq (show _ = (blk X #[(Value.int .i64) x.op, (Value.int .i64) x.k, (Value.int .i64) x.i, (Value.int .u64) x.w, (Value.int .i64) x.a.page, (Value.int .i64) x.a.kind, Value.bool x.a.user] 96 * (walkerAt k root k' * (framesAt f s' * (coreAt c0 [] k' * (memAt q s' * old w w.heap.size))))) by ac_rfl) |>.right, x4⟩
        case measure => simp [intOf]; omega
    · obtain rfl : i = m := by omega
      have SW := Lib.hid (fun R w h => sameWords_any f q ss ss (Agree.refl ss) hss.small R w h)
      go_wp2_with fail
      refine (SW.out _ _ (hr.right.eq (show _ = framesAt f ss * (memAt q ss * (coreAt c0 [] kk * old w w.heap.size)) by ac_rfl))).mono ?_; rintro e w9 ⟨rfl, rfl⟩
      go_wp2_with fail
      go_ret
      exact ⟨rfl, below_of1 hr.right.right.right.right hx⟩
end Go.Proofs.Ytndhgomikpokpaa
