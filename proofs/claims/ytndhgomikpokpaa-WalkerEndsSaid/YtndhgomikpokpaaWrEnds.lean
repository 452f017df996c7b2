/- The law WalkerEnds: the walk. -/
import Derived.Test.YtndhgomikpokpaaWrSame
import Derived.Test.YtndhgomikpokpaaFindIn
import Derived.Test.YtndhgomikpokpaaSameW
import Derived.Test.YtndhgomikpokpaaRefPage
import Derived.Test.YtndhgomikpokpaaRefEnt
namespace Go.Proofs.Ytndhgomikpokpaa
open Go.RowKit
set_option maxRecDepth 100000

theorem endR_not {y : Wy} {a : Ac} (h : y.e.there = false) : endR y a = ⟨true, ⟨1, 0, 0⟩, ⟨Mp.zero, false⟩⟩ := by unfold endR; rw [if_pos h]
theorem endR_an {s : Ms} {root : Int} {a : Ac} (h : (way s root a.page).code = 0) (ht : (way s root a.page).e.there = true) : (endR (way s root a.page) a).an = answer (leafMap (way s root a.page).e (way s root a.page).lev a.page) a := by
  obtain ⟨hp, l, u, htab, hu, h0, h3, he, hdc⟩ := way_form h
  have hf : entFault (way s root a.page).e (way s root a.page).lev = 0 := by rw [he]; exact (enc_dec hdc).1
  have hlf := way_leaf h ht
  unfold endR
  rw [if_neg (by rw [ht]; simp)]
  split
  · rename_i hm
    unfold answer
    rw [leafMap_rights hf hlf hp, hm]
    rfl
  · rfl
theorem answer_fin {m : Mp} {a : Ac} : (answer m a).fin = if may m.rights a = true then 0 else 2 := by
  unfold answer
  split <;> rfl
theorem irow_cell {w : World} {R : HProp} {b : Nat} {n c : Nat} {l : List Int} (h : Has w (irow (.slice (some ⟨b, 0, none⟩) n c) l * R)) {k : Nat} (hk : k < l.length) : w.cell? ⟨b, k, none⟩ = some ((Value.int .i64) l[k]) := by
  obtain ⟨b', e, _, hc⟩ := irow_at h hk
  injection e with e
  injection e with e
  subst e
  exact hc
set_option maxHeartbeats 8000000 in
theorem walkerEnds_walk (N : Int) (A : Option Addr) (n c : Nat) (l : List Int) (a : Ac) (w : World) (_ : i64 N) (h : Arr w A n 1 (l.map cellsU)) (hok : ∀ x ∈ l, u64 x) (_ : a.ok) :
    Calls Try.prog 4 #[(Value.int .i64) N, .slice A n c, .agg #[(Value.int .i64) a.page, (Value.int .i64) a.kind, Value.bool a.user]] w (Pure (Value.bool true) w) := by
  have hm := h.2.1
  have hA := Lib.hid h
  clear h
  have h0 := (has_old w).new #[(Value.int .i64) a.page, (Value.int .i64) a.kind, Value.bool a.user] 29
  have x0 := (Ext.refl w).alloc (.cells #[(Value.int .i64) a.page, (Value.int .i64) a.kind, Value.bool a.user] 29)
  have HB := Lib.hid (fun w => walkerBegun_any w)
  by_cases hN0 : N < 1
  · go_enter Try.func4, Try.ntmps4
    go_wp2_with (refine (HB.out _).mono ?_; rintro e w1 ⟨rfl, hb⟩)
    go_ret
    exact ⟨rfl, below_of1 (h0.below hb).right (x0.below hb)⟩
  by_cases hN1 : 128 < N
  · go_enter Try.func4, Try.ntmps4
    go_wp2_with (refine (HB.out _).mono ?_; rintro e w1 ⟨rfl, hb⟩)
    go_ret
    exact ⟨rfl, below_of1 (h0.below hb).right (x0.below hb)⟩
  by_cases hbig : 2000 < n
  · go_enter Try.func4, Try.ntmps4
    go_wp2_with (refine (HB.out _).mono ?_; rintro e w1 ⟨rfl, hb⟩)
    go_ret
    exact ⟨rfl, below_of1 (h0.below hb).right (x0.below hb)⟩
  have hs := memS_ok (n := N) (taken := N) (ws := l) (by omega) (by omega) hok
  go_enter Try.func4, Try.ntmps4
  go_wp2_with fail
  refine (HB.out _).mono ?_; rintro e w1 ⟨rfl, hb⟩
  have h1 := h0.below hb
  have x1 := x0.below hb
  have hA1 := hA.out.old1 h1.right x1
  clear h0 hb x0
  go_wp2_with fail
  refine (memory_any N N A n c l _ (by omega) (by omega) hA1 hok).mono ?_; rintro e w2 ⟨f, q, rfl, h2, x2⟩
  have h3 := (h1.onto' h2.a2).a1
  have x3 := x1.trans x2
  clear h1 x1 h2 x2 hA1 hA
  generalize memS N N l = s at *
  have h6 : Has w2 (blk w.heap.size #[(Value.int .i64) a.page, (Value.int .i64) a.kind, Value.bool a.user] 29 * (framesAt f s * (memAt q s * old w w.heap.size))) := h3.eq (by ac_rfl)
  clear h3
  go_wp2_with fail
  refine (newW 0 _ _ h6).mono ?_; rintro e w4 ⟨k, rfl, h7, x7⟩
  have x7 := x3.trans x7
  clear h6 x3
  obtain ⟨a0, a1, a2⟩ := h7.right.cells3
  have al := h7.right.lt
  have BG1 := Lib.hid (fun k R w h => beginW k 0 Ck.zero a R w h)
  rw [begC_zero] at BG1
  by_cases hck : checkAccess a = 0
  case neg =>
    have hn : (checkAccess a != 0) = true := by simpa using hck
    generalize checkAccess a = ca at *
    generalize begS Ck.zero 0 a = cb at *
    go_wp2_with fail
    refine (BG1.out _ _ _ h7).mono ?_; rintro e w14 ⟨rfl, h14, x14⟩
    go_wp2_with fail
    go_ret
    exact ⟨rfl, below_of1 h14.right.right.right.right (x7.trans x14)⟩
  case pos =>
    have HW0 := Lib.hid (OnWay.begin s 0 Ck.zero hck)
    rw [hck, begS_yes 0 rfl hck] at BG1
    clear hck
    generalize Ck.zero.begin 0 a = cb at *
    go_wp2_with fail
    refine (BG1.out _ _ _ h7).mono ?_; rintro e w8 ⟨rfl, h8, x8⟩
    have x8 := x7.trans x8
    clear a0 a1 a2 al BG1 h7 x7
    have W1 := Lib.hid (fun R w h => wayTo_any q s 0 a.page R w hs h)
    have FI : Hid (∀ R w, Has w (memAt q s * R) → Calls Try.prog 28 #[.pointer (some ⟨q, 0, none⟩), (Value.int .i64) 0, (Value.int .i64) a.page] w (Pure (.tuple #[.agg #[(Value.int .i64) (findM s 0 a.page).page, (Value.int .i64) (findM s 0 a.page).size, (Value.int .i64) (findM s 0 a.page).frame, (Value.int .i64) (findM s 0 a.page).rights], .agg #[Value.bool (findE s 0 a.page).there, Value.bool (findE s 0 a.page).leaf, (Value.int .i64) (findE s 0 a.page).rights, Value.bool (findE s 0 a.page).used, Value.bool (findE s 0 a.page).dirty, (Value.int .i64) (findE s 0 a.page).frame], (Value.int .i64) (findC s 0 a.page)]) w)) := Lib.hid (fun R w h => findIn_any q s 0 a.page R w hs h)
    have hbad := fun h : (way s 0 a.page).code = 0 => way_form h
    have hean := fun h ht => endR_an (s := s) (root := 0) (a := a) h ht
    have hfc : findC s 0 a.page = if (way s 0 a.page).code ≠ 0 then (way s 0 a.page).code else if (way s 0 a.page).e.there = false then 5 else 0 := rfl
    have hfm : findM s 0 a.page = if findC s 0 a.page = 0 then leafMap (way s 0 a.page).e (way s 0 a.page).lev a.page else Mp.zero := rfl
    have hfe : findE s 0 a.page = if findC s 0 a.page = 0 then (way s 0 a.page).e else En.zero := rfl
    have hst := fun i c (h : OnWay s 0 a i c) => h.step
    have hleaf := fun h ht => way_leaf (s := s) (root := 0) (p := a.page) h ht
    have HX := Lib.hid (And.intro hbad (And.intro hean (And.intro hfc (And.intro hfm (And.intro hfe (And.intro hst hleaf))))))
    clear hbad hean hfc hfm hfe hst hleaf
    generalize findC s 0 a.page = fc at *
    generalize findM s 0 a.page = fm at *
    generalize findE s 0 a.page = fe at *
    go_wp2_with fail
    go_loopw [10] (fun t wr => ∃ (i : Nat) (c : Ck), t = (Value.int .i64) i ∧ Hid (OnWay s 0 a i c) ∧ Has wr (walkerAt k 0 c * (blk w.heap.size #[(Value.int .i64) a.page, (Value.int .i64) a.kind, Value.bool a.user] 29 * (framesAt f s * (memAt q s * old w w.heap.size)))) ∧ Ext w wr) (fun t _ => 6 - (intOf t).toNat)
    case atStart => exact ⟨0, cb, rfl, HW0, h8, x8⟩
    case round =>
      clear h8 x8 HW0
      obtain ⟨i, c, rfl, HW, hr, hx⟩ := hrel
      have hi := HW.out.few
      have HS := Lib.hid (fun R w h => stepW k f 0 c s hs HW.out.ok R w h)
      have hst := HX.out.2.2.2.2.2.1 i c HW.out
      generalize stepC s 0 c = p at *
      obtain ⟨c', s', r, code⟩ := p
      have hr2 : Has wr (walkerAt k 0 c * (framesAt f s * (blk w.heap.size #[(Value.int .i64) a.page, (Value.int .i64) a.kind, Value.bool a.user] 29 * (memAt q s * old w w.heap.size)))) := hr.eq (by ac_rfl)
      go_wp2_with fail
      refine (HS.out _ _ hr2).mono ?_; rintro e2 w9 ⟨rfl, h9, x9⟩
      go_upto_region 15 with fail
      have h10 := h9.new #[Value.bool r.fin, (Value.int .i64) r.an.fin, (Value.int .i64) r.an.frame, (Value.int .i64) r.an.rights, (Value.int .i64) r.ln.m.page, (Value.int .i64) r.ln.m.size, (Value.int .i64) r.ln.m.frame, (Value.int .i64) r.ln.m.rights, Value.bool r.ln.dirty] 53
      have x10 := (hx.trans x9).alloc (.cells #[Value.bool r.fin, (Value.int .i64) r.an.fin, (Value.int .i64) r.an.frame, (Value.int .i64) r.an.rights, (Value.int .i64) r.ln.m.page, (Value.int .i64) r.ln.m.size, (Value.int .i64) r.ln.m.frame, (Value.int .i64) r.ln.m.rights, Value.bool r.ln.dirty] 53)
      generalize w9.alloc (.cells #[Value.bool r.fin, (Value.int .i64) r.an.fin, (Value.int .i64) r.an.frame, (Value.int .i64) r.an.rights, (Value.int .i64) r.ln.m.page, (Value.int .i64) r.ln.m.size, (Value.int .i64) r.ln.m.frame, (Value.int .i64) r.ln.m.rights, Value.bool r.ln.dirty] 53) = w10 at *
      generalize w9.heap.size = XR at *
      clear hr hx h9 x9 HS hr2
      obtain ⟨c0, c1, c2, c3, c4, c5, c6, c7, c8⟩ := h10.cells9
      have cl := h10.lt
      obtain ⟨a0, a1, a2⟩ := h10.right.right.right.cells3
      have al := h10.right.right.right.lt
      cases hst with
      | bad hc hy hrr hss hk =>
        dsimp only at hc hy hrr hss
        subst hss
        have hn : (code != 0) = true := by simpa using hc
        have HY := Lib.hid hy
        clear hy hrr
        have SW := Lib.hid (fun R w h => sameWords_any f q _ _ (Agree.refl s') hs.small R w h)
        go_wp2_with fail
        refine (W1.out _ _ (h10.right.right.right.right)).mono ?_; rintro e2 w11 hF
        generalize hyw : way s' 0 a.page = y at *
        obtain ⟨A2, cc, rfl, h11, x11⟩ : ∃ (A : Option Addr) (c : Nat), e2 = .returned (.tuple #[.agg #[.slice A y.tabs.length c, Value.bool y.e.there, Value.bool y.e.leaf, (Value.int .i64) y.e.rights, Value.bool y.e.used, Value.bool y.e.dirty, (Value.int .i64) y.e.frame, (Value.int .i64) y.lev], (Value.int .i64) y.code]) ∧ Has w11 (irow (.slice A y.tabs.length c) y.tabs * old w10 w10.heap.size) ∧ Ext w10 w11 := hF
        have h12 := ((h10.onto' h11).right.new #[.slice A2 y.tabs.length cc, Value.bool y.e.there, Value.bool y.e.leaf, (Value.int .i64) y.e.rights, Value.bool y.e.used, Value.bool y.e.dirty, (Value.int .i64) y.e.frame, (Value.int .i64) y.lev] 60)
        have x12 := (x10.trans x11).alloc (.cells #[.slice A2 y.tabs.length cc, Value.bool y.e.there, Value.bool y.e.leaf, (Value.int .i64) y.e.rights, Value.bool y.e.used, Value.bool y.e.dirty, (Value.int .i64) y.e.frame, (Value.int .i64) y.lev] 60)
        have hyc := HY.out
        clear hyw HY h10 h11 x10 x11 HX W1 FI
        obtain ⟨ycode, ytabs, ylev, ye⟩ := y
        dsimp only at *
        subst hyc
        have h13 : Has _ (framesAt f s' * (memAt q s' * (walkerAt k 0 c' * (blk w.heap.size #[(Value.int .i64) a.page, (Value.int .i64) a.kind, Value.bool a.user] 29 * old w w.heap.size)))) := h12.right.right.eq (by ac_rfl)
        go_wp2_with fail
        refine (SW.out _ _ h13).mono ?_; rintro e2 w13 ⟨rfl, rfl⟩
        go_wp2_with fail
        go_ret
        exact ⟨rfl, below_of1 h13.right.right.right.right x12⟩
      | on hc hrr hss hwn =>
        dsimp only at hc hrr hss hwn
        subst hc hrr hss
        go_wp2_with fail
        go_roundw
        case rel => exact ⟨i + 1, c', by go_num, Lib.hid hwn, h10.right.eq (by ac_rfl), x10⟩
        case measure => simp [intOf]; omega
      | done hc hy hrr hss hcnt hoff hck =>
        dsimp only at hc hy hrr hss
        subst hc
        obtain ⟨hbad, hean, hfc, hfm, hfe, _, hleaf⟩ := HX.out
        have hean := hean hy
        have hfo := hbad hy
        have hleaf := hleaf hy
        clear HX hbad hck hoff hcnt
        have hfin : r.fin = true := by
          rw [hrr]; unfold endR
          split
          · rfl
          · split <;> rfl
        have hnn : s'.n = s.n := by rw [hss]; exact endS_n _ _ _
        have hAG : Agree (endS s (way s 0 a.page) a) s' := by rw [hss]; exact Agree.refl _
        rw [if_neg (by rw [hy]; simp)] at hfc
        generalize hyw : way s 0 a.page = y at *
        obtain ⟨fin, an, ln⟩ := r
        dsimp only at hfin c0 c1 c2 c3 c4 c5 c6 c7 c8
        subst hfin
        have HRR := Lib.hid hrr
        clear hrr
        cases hth : y.e.there with
        | false =>
          rw [if_pos hth] at hfc
          rw [if_neg (by rw [hfc]; decide)] at hfm hfe
          subst hfc hfm hfe
          have hdb : endS s y a = s := by unfold endS doneB; rw [hth]; rfl
          rw [hdb] at hss
          subst hss
          have hq := HRR.out
          rw [endR_not hth] at hq
          injection hq with _ hq1 hq2
          subst hq1 hq2
          have SW := Lib.hid (fun R w h => sameWords_any f q _ _ (Agree.refl s') hs.small R w h)
          have FI0 : Hid (∀ R w, Has w (memAt q s' * R) → Calls Try.prog 28 #[.pointer (some ⟨q, 0, none⟩), (Value.int .i64) 0, (Value.int .i64) a.page] w (Pure (.tuple #[.agg #[(Value.int .i64) 0, (Value.int .i64) 0, (Value.int .i64) 0, (Value.int .i64) 0], .agg #[Value.bool false, Value.bool false, (Value.int .i64) 0, Value.bool false, Value.bool false, (Value.int .i64) 0], (Value.int .i64) 5]) w)) := Lib.hid (fun R w h => FI.out R w h)
          clear HRR hean hleaf hfo hdb hAG FI
          go_wp2_with fail
          refine (FI0.out _ _ (h10.right.right.right.right)).mono ?_; rintro e2 w11 ⟨rfl, b11⟩
          have h11 : Has w11 (blk XR #[Value.bool true, (Value.int .i64) 1, (Value.int .i64) 0, (Value.int .i64) 0, (Value.int .i64) 0, (Value.int .i64) 0, (Value.int .i64) 0, (Value.int .i64) 0, Value.bool false] 53 * (framesAt f s' * (memAt q s' * (walkerAt k 0 c' * (blk w.heap.size #[(Value.int .i64) a.page, (Value.int .i64) a.kind, Value.bool a.user] 29 * old w w.heap.size))))) := (h10.below b11).eq (by simp only [show Mp.zero = ⟨0, 0, 0, 0⟩ from rfl]; ac_rfl)
          have h12 := ((h11.alloc (.cells #[(Value.int .i64) 0, (Value.int .i64) 0, (Value.int .i64) 0, (Value.int .i64) 0] 27)).alloc (.cells #[Value.bool false, Value.bool false, (Value.int .i64) 0, Value.bool false, Value.bool false, (Value.int .i64) 0] 58))
          have x12 := (((x10.below b11).alloc (.cells #[(Value.int .i64) 0, (Value.int .i64) 0, (Value.int .i64) 0, (Value.int .i64) 0] 27)).alloc (.cells #[Value.bool false, Value.bool false, (Value.int .i64) 0, Value.bool false, Value.bool false, (Value.int .i64) 0] 58))
          clear c0 c1 c2 c3 c4 c5 c6 c7 c8 cl a0 a1 a2 al h10 x10 b11 h11 FI0 W1
          go_upto_region 20 with fail
          generalize (w11.alloc (.cells #[(Value.int .i64) 0, (Value.int .i64) 0, (Value.int .i64) 0, (Value.int .i64) 0] 27)).alloc (.cells #[Value.bool false, Value.bool false, (Value.int .i64) 0, Value.bool false, Value.bool false, (Value.int .i64) 0] 58) = w12 at *
          obtain ⟨c0, c1, c2, c3, c4, c5, c6, c7, c8⟩ := h12.cells9
          have cl := h12.lt
          go_wp2_with fail
          refine (SW.out _ _ h12.right).mono ?_; rintro e2 w13 ⟨rfl, rfl⟩
          go_wp2_with fail
          go_ret
          exact ⟨rfl, below_of1 h12.right.right.right.right.right x12⟩
        | true =>
          rw [if_neg (by rw [hth]; simp)] at hfc
          rw [if_pos hfc] at hfm hfe
          have han := hean hth
          rw [← HRR.out] at han
          dsimp only at han
          have hlf := hleaf hth
          obtain ⟨hpp, tl, u, htab, hu, hl0, hl3, hye, hyd⟩ := hfo
          have hdone : doneB y a = may y.e.rights a := by unfold doneB; rw [hth]; rfl
          have HAN : Hid (∀ X, Calls Try.prog 29 #[.agg #[(Value.int .i64) (leafMap y.e y.lev a.page).page, (Value.int .i64) (leafMap y.e y.lev a.page).size, (Value.int .i64) (leafMap y.e y.lev a.page).frame, (Value.int .i64) (leafMap y.e y.lev a.page).rights], .agg #[(Value.int .i64) a.page, (Value.int .i64) a.kind, Value.bool a.user]] X (Pure (.agg #[(Value.int .i64) an.fin, (Value.int .i64) an.frame, (Value.int .i64) an.rights]) X)) := Lib.hid (fun X => by
            have := answerOf_any (leafMap y.e y.lev a.page) a.page a.kind a.user X
            rw [show (⟨a.page, a.kind, a.user⟩ : Ac) = a from rfl, ← han] at this
            exact this)
          rw [hfm, hfe, hfc] at FI
          have hfin2 : an.fin = if may y.e.rights a = true then 0 else 2 := by
            rw [han, answer_fin, leafMap_rights (by rw [hye]; exact (enc_dec hyd).1) hlf hpp]
          have HREST := Lib.hid (And.intro htab (And.intro hu (And.intro hl0 (And.intro hl3 (And.intro hye hyd)))))
          have HAG := Lib.hid hAG
          have HPP := Lib.hid hpp
          have HDONE := Lib.hid hdone
          have HFIN := Lib.hid hfin2
          clear htab hu hl0 hl3 hye hyd hAG hpp hdone hfin2 han hfc hfm hfe hean hleaf HRR hss HW
          generalize leafMap y.e y.lev a.page = lm at *
          obtain ⟨ycode, ytabs, ylev, yth, ylf, rg, us, di, fr⟩ := y
          dsimp only at *
          subst hy hth hlf
          go_wp2_with fail
          refine (FI.out _ _ (h10.right.right.right.right)).mono ?_; rintro e2 w11 ⟨rfl, b11⟩
          have h12 := ((h10.below b11).new #[(Value.int .i64) lm.page, (Value.int .i64) lm.size, (Value.int .i64) lm.frame, (Value.int .i64) lm.rights] 27).new #[Value.bool true, Value.bool true, (Value.int .i64) rg, Value.bool us, Value.bool di, (Value.int .i64) fr] 58
          have x12 := ((x10.below b11).alloc (.cells #[(Value.int .i64) lm.page, (Value.int .i64) lm.size, (Value.int .i64) lm.frame, (Value.int .i64) lm.rights] 27)).alloc (.cells #[Value.bool true, Value.bool true, (Value.int .i64) rg, Value.bool us, Value.bool di, (Value.int .i64) fr] 58)
          simp only [World.size_alloc] at h12
          clear c0 c1 c2 c3 c4 c5 c6 c7 c8 cl a0 a1 a2 al h10 x10 b11 FI
          go_upto_region 20 with fail
          generalize (w11.alloc (.cells #[(Value.int .i64) lm.page, (Value.int .i64) lm.size, (Value.int .i64) lm.frame, (Value.int .i64) lm.rights] 27)).alloc (.cells #[Value.bool true, Value.bool true, (Value.int .i64) rg, Value.bool us, Value.bool di, (Value.int .i64) fr] 58) = w12 at *
          generalize w11.heap.size + 1 = XE at *
          generalize w11.heap.size = XM at *
          go_upto_region 22 with fail
          have v1 := via_cell (h12.right.right.cell 1)
          have v2 := via_cell (h12.right.right.cell 2)
          have v3 := via_cell (h12.right.right.cell 3)
          have m0 := via_cell (h12.right.cell 0)
          have m1 := via_cell (h12.right.cell 1)
          have m2 := via_cell (h12.right.cell 2)
          have m3 := via_cell (h12.right.cell 3)
          have b0 := via_cell (h12.right.right.right.right.right.cell 0)
          have b1 := via_cell (h12.right.right.right.right.right.cell 1)
          have b2 := via_cell (h12.right.right.right.right.right.cell 2)
          refine wp_region_via (by kernel_rfl) (by kernel_rfl) ?_
          repeat (first | go_big_quiet_step ((go_at_call 29; exact Pure.via (HAN.out _))) | quiet_step ((go_at_call 29; exact Pure.via (HAN.out _))))
          refine wpQuiet_nil ?_
          intro _ hw'
          obtain ⟨uq, hw''⟩ := hw'
          subst hw''
          have h13 := h12.via uq
          have x13 := x12.below (via_below _ uq)
          generalize via w12 uq = w13 at *
          clear v1 v2 v3 m0 m1 m2 m3 b0 b1 b2 h12 x12 HAN
          have c1 := h13.right.right.cell 1
          have cl := h13.right.right.lt
          cases hmay : may rg a with
          | false =>
            have hcond : (an.fin == 0) = false := by rw [HFIN.out, hmay]; rfl
            have hse : endS s ⟨0, ytabs, ylev, ⟨true, true, rg, us, di, fr⟩⟩ a = s := by unfold endS; rw [HDONE.out, hmay]; rfl
            have SW := Lib.hid (fun R w h => sameWords_any f q s' s (by have := HAG.out; rw [hse] at this; exact this.symm) (by rw [hnn]; exact hs.small) R w h)
            have h14 : Has w13 (framesAt f s' * (memAt q s * _)) := (h13.right.right.right.right).eq (by rw [star_left_comm (blk _ _ _)])
            clear hse
            go_wp2_with fail
            refine (SW.out _ _ h14).mono ?_; rintro e2 w15 ⟨rfl, rfl⟩
            go_wp2_with fail
            go_ret
            exact ⟨rfl, below_of1 h14.right.right.right x13⟩
          | true =>
            have hcond : (an.fin == 0) = true := by rw [HFIN.out, hmay]; rfl
            have hse : endS s ⟨0, ytabs, ylev, ⟨true, true, rg, us, di, fr⟩⟩ a = sW s ⟨0, ytabs, ylev, ⟨true, true, rg, us, di, fr⟩⟩ a := by unfold endS; rw [HDONE.out, hmay]; rfl
            have HSE := Lib.hid (show Agree (sW s ⟨0, ytabs, ylev, ⟨true, true, rg, us, di, fr⟩⟩ a) s' by have := HAG.out; rw [hse] at this; exact this)
            clear hse HAG
            obtain ⟨a0, a1, a2⟩ := h13.right.right.right.right.right.cells3
            have al := h13.right.right.right.right.right.lt
            go_wp2_with fail
            refine (W1.out _ _ (h13.right.right.right.right.right.right)).mono ?_; rintro e2 w14 hF
            obtain ⟨A2, cc, rfl, h14, x14⟩ : ∃ (A : Option Addr) (c : Nat), e2 = .returned (.tuple #[.agg #[.slice A ytabs.length c, Value.bool true, Value.bool true, (Value.int .i64) rg, Value.bool us, Value.bool di, (Value.int .i64) fr, (Value.int .i64) ylev], (Value.int .i64) 0]) ∧ Has w14 (irow (.slice A ytabs.length c) ytabs * old w13 w13.heap.size) ∧ Ext w13 w14 := hF
            have h15 := (h13.onto' h14).new #[.slice A2 ytabs.length cc, Value.bool true, Value.bool true, (Value.int .i64) rg, Value.bool us, Value.bool di, (Value.int .i64) fr, (Value.int .i64) ylev] 60
            have x15 := (x13.trans x14).alloc (.cells #[.slice A2 ytabs.length cc, Value.bool true, Value.bool true, (Value.int .i64) rg, Value.bool us, Value.bool di, (Value.int .i64) fr, (Value.int .i64) ylev] 60)
            clear a0 a1 a2 al c1 cl h13 x13 h14 x14 W1
            go_upto_region 26 with fail
            generalize w14.alloc (.cells #[.slice A2 ytabs.length cc, Value.bool true, Value.bool true, (Value.int .i64) rg, Value.bool us, Value.bool di, (Value.int .i64) fr, (Value.int .i64) ylev] 60) = w15 at *
            generalize w14.heap.size = XW at *
            have h16 : Has w15 (blk XE #[Value.bool true, Value.bool true, (Value.int .i64) rg, Value.bool us, Value.bool di, (Value.int .i64) fr] 58 * (blk XW #[.slice A2 ytabs.length cc, Value.bool true, Value.bool true, (Value.int .i64) rg, Value.bool us, Value.bool di, (Value.int .i64) fr, (Value.int .i64) ylev] 60 * (irow (.slice A2 ytabs.length cc) ytabs * (blk w.heap.size #[(Value.int .i64) a.page, (Value.int .i64) a.kind, Value.bool a.user] 29 * (memAt q s * (framesAt f s' * (walkerAt k 0 c' * (blk XM #[(Value.int .i64) lm.page, (Value.int .i64) lm.size, (Value.int .i64) lm.frame, (Value.int .i64) lm.rights] 27 * (blk XR #[Value.bool true, (Value.int .i64) an.fin, (Value.int .i64) an.frame, (Value.int .i64) an.rights, (Value.int .i64) ln.m.page, (Value.int .i64) ln.m.size, (Value.int .i64) ln.m.frame, (Value.int .i64) ln.m.rights, Value.bool ln.dirty] 53 * old w w.heap.size))))))))) := h15.eq (by ac_rfl)
            clear h15
            have HD : Hid (encW (markE ⟨true, true, rg, us, di, fr⟩ a) ylev = encW ⟨true, true, rg, true, di || a.kind == 1, fr⟩ ylev) := Lib.hid rfl
            have hsW : sW s ⟨0, ytabs, ylev, ⟨true, true, rg, us, di, fr⟩⟩ a = s.setW u.toNat (index a.page ylev).toNat (encW ⟨true, true, rg, true, di || a.kind == 1, fr⟩ ylev) := by
              unfold sW
              dsimp only
              rw [HREST.out.1, HD.out]
              simp
            rw [hsW] at HSE
            clear HD hsW
            obtain ⟨htab, hu, hl0, hl3, _, _⟩ := HREST.out
            obtain ⟨j, hj⟩ := Int.eq_ofNat_of_zero_le (index_le HPP.out hl0 hl3).1
            have hj8 : j < 8 := by have := (index_le HPP.out hl0 hl3).2; omega
            obtain ⟨u0, un, _⟩ := Ms.has_iff.1 hu
            obtain ⟨t, rfl⟩ := Int.eq_ofNat_of_zero_le u0
            have htn : t < s.n := by omega
            have hsn := hs.small
            rw [hj] at HSE
            rw [show ((t : Int)).toNat = t from Int.toNat_natCast t, show ((j : Int)).toNat = j from Int.toNat_natCast j] at HSE
            have HI := Lib.hid (fun X => indexOf_any a.page ylev X)
            rw [hj] at HI
            have hlen : ytabs.length = tl.length + 1 := by rw [htab]; simp
            have hlast : ∀ h : tl.length < ytabs.length, ytabs[tl.length] = (t : Int) := by
              subst htab
              intro h
              simp
            have HLAST := Lib.hid hlast
            clear htab hu hl0 hl3 hj u0 un HREST HPP HDONE HFIN hlast
            cases di with
            | true =>
              obtain ⟨e0, e1, e2', e3, e4, e5⟩ := h16.cells6
              obtain ⟨f0, f1, f2, f3, f4, f5⟩ := h16.frees6
              have el := h16.lt
              obtain ⟨a0, a1, a2⟩ := h16.right.right.right.cells3
              have al := h16.right.right.right.lt
              have h17 : Has ((w15.setCell ⟨XE, 3, none⟩ (Value.bool true)).setCell ⟨XE, 4, none⟩ (Value.bool (true))) (blk XE #[Value.bool true, Value.bool true, (Value.int .i64) rg, Value.bool true, Value.bool (true), (Value.int .i64) fr] 58 * (blk XW #[.slice A2 ytabs.length cc, Value.bool true, Value.bool true, (Value.int .i64) rg, Value.bool us, Value.bool true, (Value.int .i64) fr, (Value.int .i64) ylev] 60 * (irow (.slice A2 ytabs.length cc) ytabs * (blk w.heap.size #[(Value.int .i64) a.page, (Value.int .i64) a.kind, Value.bool a.user] 29 * (memAt q s * (framesAt f s' * (walkerAt k 0 c' * (blk XM #[(Value.int .i64) lm.page, (Value.int .i64) lm.size, (Value.int .i64) lm.frame, (Value.int .i64) lm.rights] 27 * (blk XR #[Value.bool true, (Value.int .i64) an.fin, (Value.int .i64) an.frame, (Value.int .i64) an.rights, (Value.int .i64) ln.m.page, (Value.int .i64) ln.m.size, (Value.int .i64) ln.m.frame, (Value.int .i64) ln.m.rights, Value.bool ln.dirty] 53 * old w w.heap.size))))))))) := (h16.set 3 (Value.bool true)).set 4 (Value.bool (true))
              have x17 := (x15.set ⟨XE, 3, none⟩ (Value.bool true)).set ⟨XE, 4, none⟩ (Value.bool (true))
              have HWD : Hid (∀ X, Calls Try.prog 30 #[.agg #[Value.bool true, Value.bool true, (Value.int .i64) rg, Value.bool true, Value.bool (true), (Value.int .i64) fr], .int .i64 ylev] X (Pure (.tuple #[(Value.int .u64) (encW ⟨true, true, rg, true, true, fr⟩ ylev), (Value.int .i64) (entFault ⟨true, true, rg, true, true, fr⟩ ylev)]) X)) := Lib.hid (fun X => wordOf_any ⟨true, true, rg, true, true, fr⟩ ylev X)
              first | rw [show ((true || (a.kind == 1)) = true) from rfl] at HSE | rw [show ((false || (a.kind == 1)) = (a.kind == 1)) from rfl] at HSE
              generalize entFault ⟨true, true, rg, true, true, fr⟩ ylev = cf at *
              generalize encW ⟨true, true, rg, true, true, fr⟩ ylev = nw at *
              go_upto_region 28 with fail
              generalize (w15.setCell ⟨XE, 3, none⟩ (Value.bool true)).setCell ⟨XE, 4, none⟩ (Value.bool (true)) = w17 at *
              clear e0 e1 e2' e3 e4 e5 f0 f1 f2 f3 f4 f5 el a0 a1 a2 al h16 x15
              have hm5 : Has w17 (memAt q s * (blk XE #[Value.bool true, Value.bool true, (Value.int .i64) rg, Value.bool true, Value.bool (true), (Value.int .i64) fr] 58 * (blk XW #[.slice A2 ytabs.length cc, Value.bool true, Value.bool true, (Value.int .i64) rg, Value.bool us, Value.bool true, (Value.int .i64) fr, (Value.int .i64) ylev] 60 * (irow (.slice A2 ytabs.length cc) ytabs * (blk w.heap.size #[(Value.int .i64) a.page, (Value.int .i64) a.kind, Value.bool a.user] 29 * (framesAt f s' * (walkerAt k 0 c' * (blk XM #[(Value.int .i64) lm.page, (Value.int .i64) lm.size, (Value.int .i64) lm.frame, (Value.int .i64) lm.rights] 27 * (blk XR #[Value.bool true, (Value.int .i64) an.fin, (Value.int .i64) an.frame, (Value.int .i64) an.rights, (Value.int .i64) ln.m.page, (Value.int .i64) ln.m.size, (Value.int .i64) ln.m.frame, (Value.int .i64) ln.m.rights, Value.bool ln.dirty] 53 * old w w.heap.size))))))))) := h17.eq (by ac_rfl)
              obtain ⟨gw, gi, vk, hq⟩ := memAt_open hm5
              clear hm5 h17
              have hwr : IntKind.i64.wrap ((ytabs.length : Int) - 1) = (tl.length : Int) := by
                have := irow_small (Has.right (Has.right hq.right.right.right.right))
                rw [IntKind.wrap_i64]; omega
              have hlt : tl.length < ytabs.length := by omega
              clear hlen
              obtain ⟨bt, rfl, _, _⟩ := irow_at (Has.right (Has.right hq.right.right.right.right)) hlt
              go_cut [] (fun wx => Has wx (framesAt f s' * (memAt q (s.setW t j nw) * (walkerAt k 0 c' * old w w.heap.size))) ∧ Ext w wx)
              case first =>
                have HK := Lib.hid (fun (w' : World) (sx : Ms) (h : Has w' (memIn q gw gi vk sx (blk XE #[Value.bool true, Value.bool true, (Value.int .i64) rg, Value.bool true, Value.bool (true), (Value.int .i64) fr] 58 * (blk XW #[.slice (some ⟨bt, 0, none⟩) ytabs.length cc, Value.bool true, Value.bool true, (Value.int .i64) rg, Value.bool us, Value.bool true, (Value.int .i64) fr, (Value.int .i64) ylev] 60 * (irow (.slice (some ⟨bt, 0, none⟩) ytabs.length cc) ytabs * (blk w.heap.size #[(Value.int .i64) a.page, (Value.int .i64) a.kind, Value.bool a.user] 29 * (framesAt f s' * (walkerAt k 0 c' * (blk XM #[(Value.int .i64) lm.page, (Value.int .i64) lm.size, (Value.int .i64) lm.frame, (Value.int .i64) lm.rights] 27 * (blk XR #[Value.bool true, (Value.int .i64) an.fin, (Value.int .i64) an.frame, (Value.int .i64) an.rights, (Value.int .i64) ln.m.page, (Value.int .i64) ln.m.size, (Value.int .i64) ln.m.frame, (Value.int .i64) ln.m.rights, Value.bool ln.dirty] 53 * old w w.heap.size)))))))))) => (by
                  have hR := h.right.right.right.right
                  exact ⟨Has.cell h 0, hR.cell 0, hR.cell 1, hR.cell 2, hR.cell 3, hR.cell 4, hR.cell 5, hR.right.cell 0, hR.right.cell 7, hR.right.right.right.cell 0, (irow_cell hR.right.right hlt).trans (by rw [HLAST.out hlt])⟩ : w'.cell? ⟨q, 0, none⟩ = some (.slice (some ⟨gw, 0, none⟩) sx.n sx.n) ∧ w'.cell? ⟨XE, 0, none⟩ = some (Value.bool true) ∧ w'.cell? ⟨XE, 1, none⟩ = some (Value.bool true) ∧ w'.cell? ⟨XE, 2, none⟩ = some ((Value.int .i64) rg) ∧ w'.cell? ⟨XE, 3, none⟩ = some (Value.bool true) ∧ w'.cell? ⟨XE, 4, none⟩ = some (Value.bool (true)) ∧ w'.cell? ⟨XE, 5, none⟩ = some ((Value.int .i64) fr) ∧ w'.cell? ⟨XW, 0, none⟩ = some (.slice (some ⟨bt, 0, none⟩) ytabs.length cc) ∧ w'.cell? ⟨XW, 7, none⟩ = some ((Value.int .i64) ylev) ∧ w'.cell? ⟨w.heap.size, 0, none⟩ = some ((Value.int .i64) a.page) ∧ w'.cell? ⟨bt, tl.length, none⟩ = some ((Value.int .i64) (t : Int))))
                have hj8z : (j : Int) < 8 := by omega
                have hj0z : (0 : Int) ≤ (j : Int) := by omega
                have htnz : (t : Int) < (s.n : Int) := by omega
                have hq0 := hq.drew
                have xq0 := x17.drew
                obtain ⟨s0, s1, s2, s3, s4, s5, s6, s7, s8, s9, s10⟩ := HK.out _ s hq
                go_region_held3 (fun w' => w'.cell? ⟨q, 0, none⟩ = some (.slice (some ⟨gw, 0, none⟩) s.n s.n) ∧ w'.cell? ⟨XE, 0, none⟩ = some (Value.bool true) ∧ w'.cell? ⟨XE, 1, none⟩ = some (Value.bool true) ∧ w'.cell? ⟨XE, 2, none⟩ = some ((Value.int .i64) rg) ∧ w'.cell? ⟨XE, 3, none⟩ = some (Value.bool true) ∧ w'.cell? ⟨XE, 4, none⟩ = some (Value.bool (true)) ∧ w'.cell? ⟨XE, 5, none⟩ = some ((Value.int .i64) fr) ∧ w'.cell? ⟨XW, 0, none⟩ = some (.slice (some ⟨bt, 0, none⟩) ytabs.length cc) ∧ w'.cell? ⟨XW, 7, none⟩ = some ((Value.int .i64) ylev) ∧ w'.cell? ⟨w.heap.size, 0, none⟩ = some ((Value.int .i64) a.page) ∧ w'.cell? ⟨bt, tl.length, none⟩ = some ((Value.int .i64) (t : Int))) (first | (with_reducible exact HK.out _ s hq0) | (with_reducible exact HK.out _ s h5) | (with_reducible exact HK.out _ s h6) | (exact HK.out _ (s.setW t j nw) (mem_setW (k := t) (i := j) h6 hj8 nw)) | go_keep) (first | (go_at_call 31; (with_reducible refine (HI.out _).mono ?_); rintro e2 w5 ⟨rfl, b5⟩; first | (have h5 := h6.below b5; have x5 := x6.below b5; have y0 := mem_word h5 htn hj8; have y1 := h5.right.free (t * 8 + j); have y2 := h5.right.lt) | (have h5 := hq0.below b5; have x5 := xq0.below b5)) | (go_at_call 30; (with_reducible refine (HWD.out _).mono ?_); rintro e2 w6 ⟨rfl, b6⟩; first | (have h6 := h5.below b6; have x6 := x5.below b6; have y0 := mem_word h6 htn hj8; have y1 := h6.right.free (t * 8 + j); have y2 := h6.right.lt) | (have h6 := hq0.below b6; have x6 := xq0.below b6)))
                all_goals
                  go_wp2_with fail
                  go_meet
                  case rel =>
                    have h7 := memAt_shut (mem_setW (k := t) (i := j) h6 hj8 nw)
                    exact ⟨(Has.right (Has.right (Has.right (Has.right (Has.right (Has.right (h7.eq (show _ = (blk XE #[Value.bool true, Value.bool true, (Value.int .i64) rg, Value.bool true, Value.bool (true), (Value.int .i64) fr] 58 * (blk XW #[.slice (some ⟨bt, 0, none⟩) ytabs.length cc, Value.bool true, Value.bool true, (Value.int .i64) rg, Value.bool us, Value.bool true, (Value.int .i64) fr, (Value.int .i64) ylev] 60 * (irow (.slice (some ⟨bt, 0, none⟩) ytabs.length cc) ytabs * (blk w.heap.size #[(Value.int .i64) a.page, (Value.int .i64) a.kind, Value.bool a.user] 29 * (blk XM #[(Value.int .i64) lm.page, (Value.int .i64) lm.size, (Value.int .i64) lm.frame, (Value.int .i64) lm.rights] 27 * (blk XR #[Value.bool true, (Value.int .i64) an.fin, (Value.int .i64) an.frame, (Value.int .i64) an.rights, (Value.int .i64) ln.m.page, (Value.int .i64) ln.m.size, (Value.int .i64) ln.m.frame, (Value.int .i64) ln.m.rights, Value.bool ln.dirty] 53 * (framesAt f s' * (memAt q (s.setW t j nw) * (walkerAt k 0 c' * old w w.heap.size))))))))) by ac_rfl)))))))), x6.set _ _⟩
              case rest =>
                obtain ⟨h20, x20⟩ := hcut
                have SW := Lib.hid (fun R w h => sameWords_any f q s' (s.setW t j nw) HSE.out.symm (by rw [hnn]; exact hs.small) R w h)
                go_wp2_with fail
                refine (SW.out _ _ h20).mono ?_; rintro e2 w21 ⟨rfl, rfl⟩
                go_wp2_with fail
                go_ret
                exact ⟨rfl, below_of1 h20.right.right.right x20⟩
            | false =>
              obtain ⟨e0, e1, e2', e3, e4, e5⟩ := h16.cells6
              obtain ⟨f0, f1, f2, f3, f4, f5⟩ := h16.frees6
              have el := h16.lt
              obtain ⟨a0, a1, a2⟩ := h16.right.right.right.cells3
              have al := h16.right.right.right.lt
              have h17 : Has ((w15.setCell ⟨XE, 3, none⟩ (Value.bool true)).setCell ⟨XE, 4, none⟩ (Value.bool (a.kind == 1))) (blk XE #[Value.bool true, Value.bool true, (Value.int .i64) rg, Value.bool true, Value.bool (a.kind == 1), (Value.int .i64) fr] 58 * (blk XW #[.slice A2 ytabs.length cc, Value.bool true, Value.bool true, (Value.int .i64) rg, Value.bool us, Value.bool false, (Value.int .i64) fr, (Value.int .i64) ylev] 60 * (irow (.slice A2 ytabs.length cc) ytabs * (blk w.heap.size #[(Value.int .i64) a.page, (Value.int .i64) a.kind, Value.bool a.user] 29 * (memAt q s * (framesAt f s' * (walkerAt k 0 c' * (blk XM #[(Value.int .i64) lm.page, (Value.int .i64) lm.size, (Value.int .i64) lm.frame, (Value.int .i64) lm.rights] 27 * (blk XR #[Value.bool true, (Value.int .i64) an.fin, (Value.int .i64) an.frame, (Value.int .i64) an.rights, (Value.int .i64) ln.m.page, (Value.int .i64) ln.m.size, (Value.int .i64) ln.m.frame, (Value.int .i64) ln.m.rights, Value.bool ln.dirty] 53 * old w w.heap.size))))))))) := (h16.set 3 (Value.bool true)).set 4 (Value.bool (a.kind == 1))
              have x17 := (x15.set ⟨XE, 3, none⟩ (Value.bool true)).set ⟨XE, 4, none⟩ (Value.bool (a.kind == 1))
              have HWD : Hid (∀ X, Calls Try.prog 30 #[.agg #[Value.bool true, Value.bool true, (Value.int .i64) rg, Value.bool true, Value.bool (a.kind == 1), (Value.int .i64) fr], .int .i64 ylev] X (Pure (.tuple #[(Value.int .u64) (encW ⟨true, true, rg, true, a.kind == 1, fr⟩ ylev), (Value.int .i64) (entFault ⟨true, true, rg, true, a.kind == 1, fr⟩ ylev)]) X)) := Lib.hid (fun X => wordOf_any ⟨true, true, rg, true, a.kind == 1, fr⟩ ylev X)
              first | rw [show ((true || (a.kind == 1)) = true) from rfl] at HSE | rw [show ((false || (a.kind == 1)) = (a.kind == 1)) from rfl] at HSE
              generalize entFault ⟨true, true, rg, true, a.kind == 1, fr⟩ ylev = cf at *
              generalize encW ⟨true, true, rg, true, a.kind == 1, fr⟩ ylev = nw at *
              go_upto_region 28 with fail
              generalize (w15.setCell ⟨XE, 3, none⟩ (Value.bool true)).setCell ⟨XE, 4, none⟩ (Value.bool (a.kind == 1)) = w17 at *
              clear e0 e1 e2' e3 e4 e5 f0 f1 f2 f3 f4 f5 el a0 a1 a2 al h16 x15
              have hm5 : Has w17 (memAt q s * (blk XE #[Value.bool true, Value.bool true, (Value.int .i64) rg, Value.bool true, Value.bool (a.kind == 1), (Value.int .i64) fr] 58 * (blk XW #[.slice A2 ytabs.length cc, Value.bool true, Value.bool true, (Value.int .i64) rg, Value.bool us, Value.bool false, (Value.int .i64) fr, (Value.int .i64) ylev] 60 * (irow (.slice A2 ytabs.length cc) ytabs * (blk w.heap.size #[(Value.int .i64) a.page, (Value.int .i64) a.kind, Value.bool a.user] 29 * (framesAt f s' * (walkerAt k 0 c' * (blk XM #[(Value.int .i64) lm.page, (Value.int .i64) lm.size, (Value.int .i64) lm.frame, (Value.int .i64) lm.rights] 27 * (blk XR #[Value.bool true, (Value.int .i64) an.fin, (Value.int .i64) an.frame, (Value.int .i64) an.rights, (Value.int .i64) ln.m.page, (Value.int .i64) ln.m.size, (Value.int .i64) ln.m.frame, (Value.int .i64) ln.m.rights, Value.bool ln.dirty] 53 * old w w.heap.size))))))))) := h17.eq (by ac_rfl)
              obtain ⟨gw, gi, vk, hq⟩ := memAt_open hm5
              clear hm5 h17
              have hwr : IntKind.i64.wrap ((ytabs.length : Int) - 1) = (tl.length : Int) := by
                have := irow_small (Has.right (Has.right hq.right.right.right.right))
                rw [IntKind.wrap_i64]; omega
              have hlt : tl.length < ytabs.length := by omega
              clear hlen
              obtain ⟨bt, rfl, _, _⟩ := irow_at (Has.right (Has.right hq.right.right.right.right)) hlt
              go_cut [] (fun wx => Has wx (framesAt f s' * (memAt q (s.setW t j nw) * (walkerAt k 0 c' * old w w.heap.size))) ∧ Ext w wx)
              case first =>
                have HK := Lib.hid (fun (w' : World) (sx : Ms) (h : Has w' (memIn q gw gi vk sx (blk XE #[Value.bool true, Value.bool true, (Value.int .i64) rg, Value.bool true, Value.bool (a.kind == 1), (Value.int .i64) fr] 58 * (blk XW #[.slice (some ⟨bt, 0, none⟩) ytabs.length cc, Value.bool true, Value.bool true, (Value.int .i64) rg, Value.bool us, Value.bool false, (Value.int .i64) fr, (Value.int .i64) ylev] 60 * (irow (.slice (some ⟨bt, 0, none⟩) ytabs.length cc) ytabs * (blk w.heap.size #[(Value.int .i64) a.page, (Value.int .i64) a.kind, Value.bool a.user] 29 * (framesAt f s' * (walkerAt k 0 c' * (blk XM #[(Value.int .i64) lm.page, (Value.int .i64) lm.size, (Value.int .i64) lm.frame, (Value.int .i64) lm.rights] 27 * (blk XR #[Value.bool true, (Value.int .i64) an.fin, (Value.int .i64) an.frame, (Value.int .i64) an.rights, (Value.int .i64) ln.m.page, (Value.int .i64) ln.m.size, (Value.int .i64) ln.m.frame, (Value.int .i64) ln.m.rights, Value.bool ln.dirty] 53 * old w w.heap.size)))))))))) => (by
                  have hR := h.right.right.right.right
                  exact ⟨Has.cell h 0, hR.cell 0, hR.cell 1, hR.cell 2, hR.cell 3, hR.cell 4, hR.cell 5, hR.right.cell 0, hR.right.cell 7, hR.right.right.right.cell 0, (irow_cell hR.right.right hlt).trans (by rw [HLAST.out hlt])⟩ : w'.cell? ⟨q, 0, none⟩ = some (.slice (some ⟨gw, 0, none⟩) sx.n sx.n) ∧ w'.cell? ⟨XE, 0, none⟩ = some (Value.bool true) ∧ w'.cell? ⟨XE, 1, none⟩ = some (Value.bool true) ∧ w'.cell? ⟨XE, 2, none⟩ = some ((Value.int .i64) rg) ∧ w'.cell? ⟨XE, 3, none⟩ = some (Value.bool true) ∧ w'.cell? ⟨XE, 4, none⟩ = some (Value.bool (a.kind == 1)) ∧ w'.cell? ⟨XE, 5, none⟩ = some ((Value.int .i64) fr) ∧ w'.cell? ⟨XW, 0, none⟩ = some (.slice (some ⟨bt, 0, none⟩) ytabs.length cc) ∧ w'.cell? ⟨XW, 7, none⟩ = some ((Value.int .i64) ylev) ∧ w'.cell? ⟨w.heap.size, 0, none⟩ = some ((Value.int .i64) a.page) ∧ w'.cell? ⟨bt, tl.length, none⟩ = some ((Value.int .i64) (t : Int))))
                have hj8z : (j : Int) < 8 := by omega
                have hj0z : (0 : Int) ≤ (j : Int) := by omega
                have htnz : (t : Int) < (s.n : Int) := by omega
                have hq0 := hq.drew
                have xq0 := x17.drew
                obtain ⟨s0, s1, s2, s3, s4, s5, s6, s7, s8, s9, s10⟩ := HK.out _ s hq
                go_region_held3 (fun w' => w'.cell? ⟨q, 0, none⟩ = some (.slice (some ⟨gw, 0, none⟩) s.n s.n) ∧ w'.cell? ⟨XE, 0, none⟩ = some (Value.bool true) ∧ w'.cell? ⟨XE, 1, none⟩ = some (Value.bool true) ∧ w'.cell? ⟨XE, 2, none⟩ = some ((Value.int .i64) rg) ∧ w'.cell? ⟨XE, 3, none⟩ = some (Value.bool true) ∧ w'.cell? ⟨XE, 4, none⟩ = some (Value.bool (a.kind == 1)) ∧ w'.cell? ⟨XE, 5, none⟩ = some ((Value.int .i64) fr) ∧ w'.cell? ⟨XW, 0, none⟩ = some (.slice (some ⟨bt, 0, none⟩) ytabs.length cc) ∧ w'.cell? ⟨XW, 7, none⟩ = some ((Value.int .i64) ylev) ∧ w'.cell? ⟨w.heap.size, 0, none⟩ = some ((Value.int .i64) a.page) ∧ w'.cell? ⟨bt, tl.length, none⟩ = some ((Value.int .i64) (t : Int))) (first | (with_reducible exact HK.out _ s hq0) | (with_reducible exact HK.out _ s h5) | (with_reducible exact HK.out _ s h6) | (exact HK.out _ (s.setW t j nw) (mem_setW (k := t) (i := j) h6 hj8 nw)) | go_keep) (first | (go_at_call 31; (with_reducible refine (HI.out _).mono ?_); rintro e2 w5 ⟨rfl, b5⟩; first | (have h5 := h6.below b5; have x5 := x6.below b5; have y0 := mem_word h5 htn hj8; have y1 := h5.right.free (t * 8 + j); have y2 := h5.right.lt) | (have h5 := hq0.below b5; have x5 := xq0.below b5)) | (go_at_call 30; (with_reducible refine (HWD.out _).mono ?_); rintro e2 w6 ⟨rfl, b6⟩; first | (have h6 := h5.below b6; have x6 := x5.below b6; have y0 := mem_word h6 htn hj8; have y1 := h6.right.free (t * 8 + j); have y2 := h6.right.lt) | (have h6 := hq0.below b6; have x6 := xq0.below b6)))
                all_goals
                  go_wp2_with fail
                  go_meet
                  case rel =>
                    have h7 := memAt_shut (mem_setW (k := t) (i := j) h6 hj8 nw)
                    exact ⟨(Has.right (Has.right (Has.right (Has.right (Has.right (Has.right (h7.eq (show _ = (blk XE #[Value.bool true, Value.bool true, (Value.int .i64) rg, Value.bool true, Value.bool (a.kind == 1), (Value.int .i64) fr] 58 * (blk XW #[.slice (some ⟨bt, 0, none⟩) ytabs.length cc, Value.bool true, Value.bool true, (Value.int .i64) rg, Value.bool us, Value.bool false, (Value.int .i64) fr, (Value.int .i64) ylev] 60 * (irow (.slice (some ⟨bt, 0, none⟩) ytabs.length cc) ytabs * (blk w.heap.size #[(Value.int .i64) a.page, (Value.int .i64) a.kind, Value.bool a.user] 29 * (blk XM #[(Value.int .i64) lm.page, (Value.int .i64) lm.size, (Value.int .i64) lm.frame, (Value.int .i64) lm.rights] 27 * (blk XR #[Value.bool true, (Value.int .i64) an.fin, (Value.int .i64) an.frame, (Value.int .i64) an.rights, (Value.int .i64) ln.m.page, (Value.int .i64) ln.m.size, (Value.int .i64) ln.m.frame, (Value.int .i64) ln.m.rights, Value.bool ln.dirty] 53 * (framesAt f s' * (memAt q (s.setW t j nw) * (walkerAt k 0 c' * old w w.heap.size))))))))) by ac_rfl)))))))), x6.set _ _⟩
              case rest =>
                obtain ⟨h20, x20⟩ := hcut
                have SW := Lib.hid (fun R w h => sameWords_any f q s' (s.setW t j nw) HSE.out.symm (by rw [hnn]; exact hs.small) R w h)
                go_wp2_with fail
                refine (SW.out _ _ h20).mono ?_; rintro e2 w21 ⟨rfl, rfl⟩
                go_wp2_with fail
                go_ret
                exact ⟨rfl, below_of1 h20.right.right.right x20⟩
end Go.Proofs.Ytndhgomikpokpaa
