/- The law SpaceDirty: the walk. -/
import Derived.Test.YtmfheghbgihdmaaTabB
import Derived.Test.YtmfheghbgihdmaaInsM2
import Derived.Test.YtmfheghbgihdmaaFrames2
namespace Go.Proofs.Ytmfheghbgihdmaa
open Go.RowKit
set_option maxRecDepth 100000
theorem filt_yes {f : Int → Bool} {l : List Int} {j : Nat} (h : j < l.length) (hq : f l[j] = true) : (l.take (j + 1)).filter f = (l.take j).filter f ++ [l[j]] := by
  rw [List.take_succ_eq_append_getElem h, List.filter_append]
  simp [hq]
theorem filt_no {f : Int → Bool} {l : List Int} {j : Nat} (h : j < l.length) (hq : f l[j] = false) : (l.take (j + 1)).filter f = (l.take j).filter f := by
  rw [List.take_succ_eq_append_getElem h, List.filter_append]
  simp [hq]
set_option maxHeartbeats 8000000 in
theorem spaceDirty_walk (C N : Int) (B : Option Addr) (m d : Nat) (L : List Stp) (w : World) (_ : i64 C) (_ : i64 N) (h2 : Arr w B m 9 (L.map Stp.cells)) (hLo : ∀ x ∈ L, x.ok) :
    Calls Try.prog 4 #[(Value.int .i64) C, (Value.int .i64) N, .slice B m d] w (Pure (Value.bool true) w) := by
  have hm2 := h2.2.1
  have hB := Lib.hid h2
  have hL := Lib.hid (show L.length = m by simpa using h2.1)
  have hLO := Lib.hid hLo
  clear h2 hLo
  have h0 := has_old w
  have x0 := Ext.refl w
  have HB := Lib.hid (fun w => spaceBegun_any w)
  have HG := Lib.hid (fun w => greatSteps_any B m d 300 w)
  by_cases hbig : (300 : Int) < m
  · rw [decide_eq_true hbig] at HG
    go_enter Try.func4, Try.ntmps4
    go_wp2_with fail
    refine (HB.out _).mono ?_; rintro e w1 ⟨rfl, hb⟩
    go_wp2_with fail
    refine (HG.out _).mono ?_; rintro e w2 ⟨rfl, hw⟩
    subst hw
    go_wp2_with fail
    go_ret
    exact ⟨rfl, below_of1 (h0.below hb) (x0.below hb)⟩
  rw [decide_eq_false hbig] at HG
  by_cases hbad : C < 1 ∨ 4 < C ∨ N < 1 ∨ 128 < N
  · have HN := Lib.hid (fun w => newS_no C N hbad w)
    clear hbad
    go_enter Try.func4, Try.ntmps4
    go_wp2_with fail
    refine (HB.out _).mono ?_; rintro e w1 ⟨rfl, hb⟩
    go_wp2_with fail
    refine (HG.out _).mono ?_; rintro e w2 ⟨rfl, hw⟩
    subst hw
    have h1 := h0.below hb
    have x1 := x0.below hb
    clear h0 x0 hb
    go_wp2_with fail
    refine (HN.out _).mono ?_; rintro e w3 ⟨rfl, hb⟩
    have h3 := (h1.below hb).new #[(Value.int .i64) 1, (Value.int .i64) (-1)] 27
    have x3 := (x1.below hb).alloc (.cells #[(Value.int .i64) 1, (Value.int .i64) (-1)] 27)
    have c0 := h3.cell 0
    have cl := h3.lt
    go_wp2_with fail
    go_ret
    exact ⟨rfl, below_of1 h3.right x3⟩
  obtain ⟨K, rfl⟩ := Int.eq_ofNat_of_zero_le (show 0 ≤ C by omega)
  obtain ⟨n, rfl⟩ := Int.eq_ofNat_of_zero_le (show 0 ≤ N by omega)
  have HN := Lib.hid (fun R w h => newS K n (by omega) (by omega) (by omega) (by omega) R w h)
  have HS0 := Lib.hid (Safe.new (cores := K) (n := n) (by omega) (by omega) (by omega) (by omega))
  have hn128 : n ≤ 128 := by omega
  have hm300 : m ≤ 300 := by omega
  clear hbad hbig
  go_enter Try.func4, Try.ntmps4
  go_wp2_with fail
  refine (HB.out _).mono ?_; rintro e w1 ⟨rfl, hb⟩
  have h1 := h0.below hb
  have x1 := x0.below hb
  clear h0 x0 hb HB
  go_wp2_with fail
  refine (HG.out _).mono ?_; rintro e w2 ⟨rfl, hw⟩
  subst hw
  clear HG
  go_wp2_with fail
  refine (HN.out _ _ h1).mono ?_; rintro e w3 ⟨p, rfl, h3, x3⟩
  have h4 : Has _ (spaceAt p (Sc.new K n) * (blk w3.heap.size #[(Value.int .i64) 0, (Value.int .i64) 0] 27 * old w w.heap.size)) := (h3.new #[(Value.int .i64) 0, (Value.int .i64) 0] 27).eq (by ac_rfl)
  have x4 := (x1.trans x3).alloc (.cells #[(Value.int .i64) 0, (Value.int .i64) 0] 27)
  have c0 := h4.right.cell 0
  have cl := h4.right.lt
  clear h1 x1 h3 x3 HN
  go_wp2_with fail
  generalize w3.alloc (.cells #[(Value.int .i64) 0, (Value.int .i64) 0] 27) = w4 at *
  generalize w3.heap.size = X at *
  clear c0 cl
  generalize Sc.new K n = σ0 at *
  have h5 : Has w4 (irow (.slice none ([] : List Int).length 0) [] * (spaceAt p σ0 * (blk X #[(Value.int .i64) 0, (Value.int .i64) 0] 27 * old w w.heap.size))) := Has.rowNil (e := 3) (size := 1) h4
  clear h4
  go_loopw [9, 10] (fun v t wr => ∃ (i : Nat) (σ : Sc) (P : List Mp) (W : List Int) (A : Option Addr) (c : Nat), i ≤ m ∧ W.length ≤ i ∧ v = .slice A W.length c ∧ t = (Value.int .i64) i ∧ Hid (Safe σ P ∧ ∀ q ∈ W, MkAt σ.s q) ∧ Has wr (irow (.slice A W.length c) W * (spaceAt p σ * (blk X #[(Value.int .i64) 0, (Value.int .i64) 0] 27 * old w w.heap.size))) ∧ Ext w wr) (fun _ t _ => m - (intOf t).toNat)
  case atStart => exact ⟨0, σ0, [], [], none, 0, by omega, Nat.le_refl _, rfl, rfl, Lib.hid ⟨HS0.out.1, fun q hq => by cases hq⟩, h5, x4⟩
  case round =>
    clear h5 x4 HS0
    obtain ⟨i, σ1, P1, W, A, c, hi, hWi, rfl, rfl, hS1, hr, hx⟩ := hrel
    by_cases hlt : i < m
    · have hil : i < L.length := by have := hL.out; omega
      obtain ⟨b', off, hb, -⟩ := (hB.out.old1 hr.right.right.right hx).stp hil
      subst hb
      obtain ⟨y, hy⟩ : ∃ y, L[i] = y := ⟨_, rfl⟩
      have hyo : y.ok := by rw [← hy]; exact hLO.out _ (List.getElem_mem hil)
      have HD := Lib.hid (fun (w' : World) (h : Has w' (old w w.heap.size)) (e : Ext w w') => (hB.out.old1 h e).stpAt hil hy)
      clear hy
      have HON := Lib.hid (fun R w h => onS p σ1 R w h y.core)
      have HFD := Lib.hid (fun R w h => findS p σ1 R w h y.m.page)
      have HA := Lib.hid (fun R w h => doS p σ1 y hS1.out.1.ok hS1.out.1.calm hyo R w h)
      unfold Ev.val at HA
      unfold Mp.val enV at HFD
      have HS2 : Hid (Safe (σ1.act y).1 (Safe.prevOf σ1 P1 y)) := Lib.hid (hS1.out.1.act y)
      have HMK := Lib.hid (fun q (hq : MkAt σ1.s q) => hS1.out.1.mk_act y hq)
      have HDN := Lib.hid (hS1.out.1.done_mk y)
      have HUN := Lib.hid (hS1.out.1.un_found y)
      have HMO := Lib.hid (fun hf : findC σ1.s 0 y.m.page = 0 => (Safe.mapOk_ok (Safe.findM_ok hS1.out.1.wf hf).2.1).1)
      have HW1 := Lib.hid hS1.out.2
      clear hS1 hyo
      generalize σ1.act y = q at *
      generalize Safe.prevOf σ1 P1 y = P2 at *
      obtain ⟨σ2, ⟨ec, ef, ⟨ea, eb, er⟩, ek⟩⟩ := q
      obtain ⟨yk, yc, ym, ya⟩ := y
      unfold lawA at HDN
      dsimp only at *
      generalize findM σ1.s 0 ym.page = mm at *
      generalize findE σ1.s 0 ym.page = mx at *
      generalize findC σ1.s 0 ym.page = mc at *
      generalize σ1.acc yc = aa at *
      generalize σ1.on yc = on at *
      obtain ⟨dl, d0, d1, d2, d3, d4, d5, d6, d7, d8⟩ := HD.out _ hr.right.right.right hx
      go_wp2_with fail
      refine (HON.out _ _ hr.p2).mono ?_; rintro e w5 ⟨rfl, b5⟩
      have h6 : Has _ (spaceAt p σ1 * (blk w5.heap.size #[(Value.int .i64) aa.page, (Value.int .i64) aa.kind, Value.bool aa.user] 33 * (irow (.slice A W.length c) W * (blk X #[(Value.int .i64) 0, (Value.int .i64) 0] 27 * old w w.heap.size)))) := ((hr.below b5).new #[(Value.int .i64) aa.page, (Value.int .i64) aa.kind, Value.bool aa.user] 33).eq (by ac_rfl)
      have x6 := (hx.below b5).alloc (.cells #[(Value.int .i64) aa.page, (Value.int .i64) aa.kind, Value.bool aa.user] 33)
      clear dl d0 d1 d2 d3 d4 d5 d6 d7 d8 hr hx b5 HON
      obtain ⟨dl, d0, d1, d2, d3, d4, d5, d6, d7, d8⟩ := HD.out _ h6.right.right.right.right x6
      go_upto_region 13 with fail
      generalize w5.alloc (.cells #[(Value.int .i64) aa.page, (Value.int .i64) aa.kind, Value.bool aa.user] 33) = w6 at *
      generalize w5.heap.size = Y1 at *
      go_wp2_with fail
      refine (HFD.out _ _ h6).mono ?_; rintro e w7 ⟨rfl, b7⟩
      have h8 : Has _ (blk (w7.heap.size + 1) #[Value.bool mx.there, Value.bool mx.leaf, (Value.int .i64) mx.rights, Value.bool mx.used, Value.bool mx.dirty, (Value.int .i64) mx.frame] 51 * (spaceAt p σ1 * (blk w7.heap.size #[(Value.int .i64) mm.page, (Value.int .i64) mm.size, (Value.int .i64) mm.frame, (Value.int .i64) mm.rights] 31 * (blk Y1 #[(Value.int .i64) aa.page, (Value.int .i64) aa.kind, Value.bool aa.user] 33 * (irow (.slice A W.length c) W * (blk X #[(Value.int .i64) 0, (Value.int .i64) 0] 27 * old w w.heap.size)))))) := (((h6.below b7).new #[(Value.int .i64) mm.page, (Value.int .i64) mm.size, (Value.int .i64) mm.frame, (Value.int .i64) mm.rights] 31).new #[Value.bool mx.there, Value.bool mx.leaf, (Value.int .i64) mx.rights, Value.bool mx.used, Value.bool mx.dirty, (Value.int .i64) mx.frame] 51).eq (by simp only [World.size_alloc]; ac_rfl)
      have x8 := ((x6.below b7).alloc (.cells #[(Value.int .i64) mm.page, (Value.int .i64) mm.size, (Value.int .i64) mm.frame, (Value.int .i64) mm.rights] 31)).alloc (.cells #[Value.bool mx.there, Value.bool mx.leaf, (Value.int .i64) mx.rights, Value.bool mx.used, Value.bool mx.dirty, (Value.int .i64) mx.frame] 51)
      clear dl d0 d1 d2 d3 d4 d5 d6 d7 d8 h6 x6 b7 HFD
      go_upto_region 14 with fail
      generalize (w7.alloc (.cells #[(Value.int .i64) mm.page, (Value.int .i64) mm.size, (Value.int .i64) mm.frame, (Value.int .i64) mm.rights] 31)).alloc (.cells #[Value.bool mx.there, Value.bool mx.leaf, (Value.int .i64) mx.rights, Value.bool mx.used, Value.bool mx.dirty, (Value.int .i64) mx.frame] 51) = w8 at *
      have h9 := h8.right
      clear h8
      generalize w7.heap.size = Y2 at *
      obtain ⟨dl, d0, d1, d2, d3, d4, d5, d6, d7, d8⟩ := HD.out _ h9.right.right.right.right.right x8
      go_wp2_with fail
      refine (HA.out _ _ h9).mono ?_; rintro e w10 ⟨rfl, h10, x10⟩
      have h11 : Has _ (blk Y1 #[(Value.int .i64) aa.page, (Value.int .i64) aa.kind, Value.bool aa.user] 33 * (blk w10.heap.size #[(Value.int .i64) ec, Value.bool ef, (Value.int .i64) ea, (Value.int .i64) eb, (Value.int .i64) er, Value.bool ek] 39 * (blk Y2 #[(Value.int .i64) mm.page, (Value.int .i64) mm.size, (Value.int .i64) mm.frame, (Value.int .i64) mm.rights] 31 * (irow (.slice A W.length c) W * (spaceAt p σ2 * (blk X #[(Value.int .i64) 0, (Value.int .i64) 0] 27 * old w w.heap.size)))))) := (h10.new #[(Value.int .i64) ec, Value.bool ef, (Value.int .i64) ea, (Value.int .i64) eb, (Value.int .i64) er, Value.bool ek] 39).eq (by ac_rfl)
      have x11 := (x8.trans x10).alloc (.cells #[(Value.int .i64) ec, Value.bool ef, (Value.int .i64) ea, (Value.int .i64) eb, (Value.int .i64) er, Value.bool ek] 39)
      clear dl d0 d1 d2 d3 d4 d5 d6 d7 d8 h9 h10 x8 x10 HA
      obtain ⟨dl, d0, d1, d2, d3, d4, d5, d6, d7, d8⟩ := HD.out _ h11.right.right.right.right.right.right x11
      go_upto_if 78 with fail
      generalize w10.alloc (.cells #[(Value.int .i64) ec, Value.bool ef, (Value.int .i64) ea, (Value.int .i64) eb, (Value.int .i64) er, Value.bool ek] 39) = w11 at *
      generalize w10.heap.size = Y4 at *
      obtain ⟨a2, ha2⟩ : ∃ a2, (if yk = 4 then ya else aa) = a2 := ⟨_, rfl⟩
      obtain ⟨on2, hon2⟩ : ∃ o, (if yk = 4 then true else on) = o := ⟨_, rfl⟩
      rw [ha2] at HDN
      go_cut [12] from 79 to 83 (fun s12 wx => s12 = Value.bool on2 ∧ Has wx (blk Y1 #[(Value.int .i64) a2.page, (Value.int .i64) a2.kind, Value.bool a2.user] 33 * (blk Y4 #[(Value.int .i64) ec, Value.bool ef, (Value.int .i64) ea, (Value.int .i64) eb, (Value.int .i64) er, Value.bool ek] 39 * (blk Y2 #[(Value.int .i64) mm.page, (Value.int .i64) mm.size, (Value.int .i64) mm.frame, (Value.int .i64) mm.rights] 31 * (irow (.slice A W.length c) W * (spaceAt p σ2 * (blk X #[(Value.int .i64) 0, (Value.int .i64) 0] 27 * old w w.heap.size)))))) ∧ Ext w wx)
      case first =>
        obtain ⟨f0, f1, f2⟩ := h11.frees3
        obtain ⟨g0, g1, g2⟩ := h11.cells3
        have fl := h11.lt
        by_cases h4 : yk = 4
        · subst h4
          rw [if_pos rfl] at ha2 hon2
          subst ha2
          subst hon2
          have h12 := h11.set3 ((Value.int .i64) ya.page) ((Value.int .i64) ya.kind) (Value.bool ya.user)
          have x12 := ((x11.set ⟨Y1, 0, none⟩ ((Value.int .i64) ya.page)).set ⟨Y1, 1, none⟩ ((Value.int .i64) ya.kind)).set ⟨Y1, 2, none⟩ (Value.bool ya.user)
          go_wp2_with fail
          go_meet
          case rel => exact ⟨rfl, h12, x12⟩
        · have h4' : (yk == 4) = false := by simpa using h4
          rw [if_neg h4] at ha2 hon2
          subst ha2
          subst hon2
          go_wp2_with fail
          go_meet
          case rel => exact ⟨rfl, h11, x11⟩
      case rest =>
        obtain ⟨rfl, h12, x12⟩ := hcut
        clear dl d0 d1 d2 d3 d4 d5 d6 d7 d8 h11 x11
        obtain ⟨dl, d0, -, -, -, -, -, -, -, -⟩ := HD.out _ h12.right.right.right.right.right.right x12
        have e0 := h12.right.cell 0
        have el := h12.right.lt
        obtain ⟨del, hdel⟩ : ∃ o, (decide (yk = 2) && (decide (ec = 0) && decide (mc = 0))) = o := ⟨_, rfl⟩
        go_upto_region 17 with fail
        go_cut [98] from 84 to 98 (fun s98 wx => s98 = Value.bool del ∧ wx = wc)
        case first =>
          by_cases h2 : yk = 2
          · subst h2
            by_cases he : ec = 0
            · subst he
              by_cases hm : mc = 0
              · subst hm
                rw [show (decide ((2 : Int) = 2) && (decide ((0 : Int) = 0) && decide ((0 : Int) = 0))) = true from rfl] at hdel
                subst hdel
                go_wp2_with fail
                go_meet
                case rel => exact ⟨rfl, rfl⟩
              · have hm' : (mc == 0) = false := by simpa using hm
                rw [show (decide ((2 : Int) = 2) && (decide ((0 : Int) = 0) && decide (mc = 0))) = false from decide_eq_false hm] at hdel
                subst hdel
                go_wp2_with fail
                go_meet
                case rel => exact ⟨rfl, rfl⟩
            · have he' : (ec == 0) = false := by simpa using he
              rw [decide_eq_false he, Bool.false_and, Bool.and_false] at hdel
              subst hdel
              go_wp2_with fail
              go_meet
              case rel => exact ⟨rfl, rfl⟩
          · have h2' : (yk == 2) = false := by simpa using h2
            rw [decide_eq_false h2, Bool.false_and] at hdel
            subst hdel
            go_wp2_with fail
            go_meet
            case rel => exact ⟨rfl, rfl⟩
        case rest =>
          obtain ⟨rfl, hwr⟩ := hcut
          replace hwr := hwr.symm
          subst hwr
          clear dl d0 e0 el HD
          go_upto_if 98 with fail
          go_cut [9, 17, 18] from 99 to 119 (fun s9 s17 s18 wx => ∃ (A' : Option Addr) (c' : Nat) (W' : List Int), s9 = .slice A' W'.length c' ∧ W'.length ≤ W.length ∧ Hid (∀ q ∈ W', MkAt σ2.s q) ∧ Has wx (irow (.slice A' W'.length c') W' * (blk Y1 #[(Value.int .i64) a2.page, (Value.int .i64) a2.kind, Value.bool a2.user] 33 * (blk Y4 #[(Value.int .i64) ec, Value.bool ef, (Value.int .i64) ea, (Value.int .i64) eb, (Value.int .i64) er, Value.bool ek] 39 * (spaceAt p σ2 * (blk X #[(Value.int .i64) 0, (Value.int .i64) 0] 27 * old w w.heap.size))))) ∧ Ext w wx)
          case first =>
            cases del with
            | false =>
              have HWn : Hid (∀ q ∈ W, MkAt σ2.s q) := Lib.hid fun q hq => HMK.out q (HW1.out q hq) fun h2 he => by
                have hm := HUN.out h2 he
                rw [decide_eq_true h2, decide_eq_true he, decide_eq_true hm] at hdel
                cases hdel
              have h13 : Has wc (blk Y2 #[(Value.int .i64) mm.page, (Value.int .i64) mm.size, (Value.int .i64) mm.frame, (Value.int .i64) mm.rights] 31 * (irow (.slice A W.length c) W * (blk Y1 #[(Value.int .i64) a2.page, (Value.int .i64) a2.kind, Value.bool a2.user] 33 * (blk Y4 #[(Value.int .i64) ec, Value.bool ef, (Value.int .i64) ea, (Value.int .i64) eb, (Value.int .i64) er, Value.bool ek] 39 * (spaceAt p σ2 * (blk X #[(Value.int .i64) 0, (Value.int .i64) 0] 27 * old w w.heap.size)))))) := h12.eq (by ac_rfl)
              have h14 := h13.right
              go_wp2_with fail
              go_meet
              case rel => exact ⟨A, c, W, rfl, Nat.le_refl _, HWn, h14, x12⟩
            | true =>
              as_aux_lemma =>
              --[A
              have hd3 : yk = 2 ∧ ec = 0 ∧ mc = 0 := by simpa using hdel
              obtain ⟨h2, he, hmc⟩ := hd3
              have HH := Lib.hid (fun (q : Int) (hq : MkAt σ1.s q) w' => refHas_any mm q w' (HMO.out hmc) (by have := hq.inP; unfold InP at this; unfold i64; omega))
              have HWn : Hid (∀ q ∈ W.filter (fun q => !over mm q), MkAt σ2.s q) := Lib.hid fun q hq => by
                obtain ⟨hq1, hq2⟩ := List.mem_filter.1 hq
                exact HMK.out q (HW1.out q hq1) fun _ _ => by simpa using hq2
              clear hdel HUN HMK HMO HS2 HDN ha2 hon2
              clear h2 he hmc
              have h13 : Has wc (irow (.slice none ((W.take 0).filter (fun q => !over mm q)).length 0) ((W.take 0).filter (fun q => !over mm q)) * (blk Y2 #[(Value.int .i64) mm.page, (Value.int .i64) mm.size, (Value.int .i64) mm.frame, (Value.int .i64) mm.rights] 31 * (irow (.slice A W.length c) W * (blk Y1 #[(Value.int .i64) a2.page, (Value.int .i64) a2.kind, Value.bool a2.user] 33 * (blk Y4 #[(Value.int .i64) ec, Value.bool ef, (Value.int .i64) ea, (Value.int .i64) eb, (Value.int .i64) er, Value.bool ek] 39 * (spaceAt p σ2 * (blk X #[(Value.int .i64) 0, (Value.int .i64) 0] 27 * old w w.heap.size))))))) := Has.rowNil (e := 3) (size := 1) (h12.eq (by ac_rfl))
              clear h12
              go_wp2_with fail
              go_loopw [17, 18] (fun v t wz => ∃ (j : Nat) (A2 : Option Addr) (c2 : Nat), j ≤ W.length ∧ v = .slice A2 ((W.take j).filter (fun q => !over mm q)).length c2 ∧ t = (Value.int .i64) j ∧
                  Has wz (irow (.slice A2 ((W.take j).filter (fun q => !over mm q)).length c2) ((W.take j).filter (fun q => !over mm q)) * (blk Y2 #[(Value.int .i64) mm.page, (Value.int .i64) mm.size, (Value.int .i64) mm.frame, (Value.int .i64) mm.rights] 31 * (irow (.slice A W.length c) W * (blk Y1 #[(Value.int .i64) a2.page, (Value.int .i64) a2.kind, Value.bool a2.user] 33 * (blk Y4 #[(Value.int .i64) ec, Value.bool ef, (Value.int .i64) ea, (Value.int .i64) eb, (Value.int .i64) er, Value.bool ek] 39 * (spaceAt p σ2 * (blk X #[(Value.int .i64) 0, (Value.int .i64) 0] 27 * old w w.heap.size))))))) ∧ Ext w wz)
                (fun _ t _ => W.length - (intOf t).toNat)
              case atStart => exact ⟨0, none, 0, by omega, rfl, rfl, h13, x12⟩
              case round =>
                clear h13 x12
                obtain ⟨j, A2, c2, hj, rfl, rfl, hz, hxz⟩ := hrel
                obtain ⟨g0, g1, g2, g3⟩ := hz.right.cells4
                have gl := hz.right.lt
                by_cases hjk : j < W.length
                · obtain ⟨bG, rfl, hbG, cG⟩ := irow_at hz.right.right hjk
                  have hfl : ((W.take j).filter (fun q => !over mm q)).length ≤ 300 := Nat.le_trans (List.length_filter_le _ _) (by simp; omega)
                  have HHj := Lib.hid (HH.out W[j] (HW1.out _ (List.getElem_mem hjk)))
                  have v0 := via_cell g0
                  have v1 := via_cell g1
                  have v2 := via_cell g2
                  have v3 := via_cell g3
                  have vc := via_cell cG
                  cases hq : over mm W[j] with
                  | false =>
                    have hF := Lib.hid (filt_yes (f := fun q => !over mm q) hjk (by rw [hq]; rfl))
                    rw [hq] at HHj
                    generalize ((W.take j).filter (fun q => !over mm q)) = F at *
                    generalize hwj : W[j] = wj at *
                    go_wp2_with fail
                    refine wp_region_via (by kernel_rfl) (by kernel_rfl) ?_
                    repeat (first | go_big_quiet_step ((go_at_call 16; exact Pure.via (HHj.out _))) | quiet_step ((go_at_call 16; exact Pure.via (HHj.out _))))
                    refine wpQuiet_nil ?_
                    intro _ hw'
                    obtain ⟨uq, hw''⟩ := hw'
                    subst hw''
                    have hz' := hz.via uq
                    have xz' := hxz.below (via_below _ uq)
                    have cG' := vc uq
                    have hbG' := Nat.lt_of_lt_of_le hbG (via_below wr uq).size
                    clear hz hxz v0 v1 v2 v3 vc g0 g1 g2 g3 gl cG hbG
                    generalize via wr uq = wv at *
                    go_wp2_with (at_builtin; refine wpList_append_has rfl _ _ 47 rfl Try.underlying47 elemI _ _ _ rfl (hz'.alloc _) ⟨wv.heap.size, 0, none⟩ 1 1 [(Value.int .i64) wj] rfl rfl (news_one _ _ _) ?c1 ?c2 ?c3 ?_)
                    case c1 => intro u hu; simp at hu; subst hu; rfl
                    case c2 => unfold maxLen; omega
                    case c3 => omega
                    intro v' w' h' x'
                    obtain ⟨A3, c3, rfl⟩ := h'.rowForm
                    go_wp2_with fail
                    go_roundw
                    case rel =>
                      exact ⟨j + 1, A3, c3, by omega, by rw [hF.out]; simp, by go_num, by rw [hF.out]; unfold irow at h' ⊢; simpa using h', (xz'.alloc _).trans x'⟩
                    case measure => simp [intOf]; omega
                  | true =>
                    have hF := Lib.hid (filt_no (f := fun q => !over mm q) hjk (by rw [hq]; rfl))
                    rw [hq] at HHj
                    generalize ((W.take j).filter (fun q => !over mm q)) = F at *
                    generalize hwj : W[j] = wj at *
                    go_wp2_with fail
                    refine wp_region_via (by kernel_rfl) (by kernel_rfl) ?_
                    repeat (first | go_big_quiet_step ((go_at_call 16; exact Pure.via (HHj.out _))) | quiet_step ((go_at_call 16; exact Pure.via (HHj.out _))))
                    refine wpQuiet_nil ?_
                    intro _ hw'
                    obtain ⟨uq, hw''⟩ := hw'
                    subst hw''
                    have hz' := hz.via uq
                    have xz' := hxz.below (via_below _ uq)
                    clear hz hxz v0 v1 v2 v3 vc g0 g1 g2 g3 gl cG hbG
                    go_wp2_with fail
                    go_roundw
                    case rel => exact ⟨j + 1, A2, c2, by omega, by rw [hF.out], by go_num, by rw [hF.out]; exact hz', xz'⟩
                    case measure => simp [intOf]; omega
                · obtain rfl : j = W.length := by omega
                  rw [List.take_length] at hz ⊢
                  have hle : (W.filter (fun q => !over mm q)).length ≤ W.length := List.length_filter_le _ _
                  generalize W.filter (fun q => !over mm q) = F at *
                  have h14 : Has wr (blk Y2 #[(Value.int .i64) mm.page, (Value.int .i64) mm.size, (Value.int .i64) mm.frame, (Value.int .i64) mm.rights] 31 * (irow (.slice A W.length c) W * (irow (.slice A2 F.length c2) F * (blk Y1 #[(Value.int .i64) a2.page, (Value.int .i64) a2.kind, Value.bool a2.user] 33 * (blk Y4 #[(Value.int .i64) ec, Value.bool ef, (Value.int .i64) ea, (Value.int .i64) eb, (Value.int .i64) er, Value.bool ek] 39 * (spaceAt p σ2 * (blk X #[(Value.int .i64) 0, (Value.int .i64) 0] 27 * old w w.heap.size))))))) := hz.eq (by ac_rfl)
                  have h15 := h14.right.right
                  go_wp2_with fail
                  go_meet
                  case rel => exact ⟨A2, c2, F, rfl, hle, HWn, h15, hxz⟩
              --A]
          case rest =>
            clear h12 x12 hdel HUN HMK HMO HW1
            obtain ⟨A, c, W2, rfl, hW2, HW2, hr, hx⟩ := hcut
            have HFD := Lib.hid (fun R w h => findS p σ2 R w h a2.page)
            unfold Mp.val enV at HFD
            have HBZ := Lib.hid (fun R w h => busyS p σ2 R w h)
            have HUS := Lib.hid (fun h1 h2 h3 => (HS2.out.at_found (HDN.out h1 h2 h3).1 (HDN.out h1 h2 h3).2.1 (HDN.out h1 h2 h3).2.2.1).2)
            have HMF := Lib.hid (fun q (hq : MkAt σ2.s q) => HS2.out.mk_found hq)
            have HFW := Lib.hid (fun q R w h => findS p σ2 R w h q)
            unfold Mp.val enV at HFW
            generalize hnm : findM σ2.s 0 a2.page = nm at *
            generalize hnx : findE σ2.s 0 a2.page = nx at *
            generalize hnc : findC σ2.s 0 a2.page = nc at *
            obtain ⟨bz, hbz⟩ : ∃ o, σ2.busy = o := ⟨_, rfl⟩
            rw [hbz] at HBZ HDN HUS
            clear hnm
            have h13 : Has wc (spaceAt p σ2 * (blk Y1 #[(Value.int .i64) a2.page, (Value.int .i64) a2.kind, Value.bool a2.user] 33 * (blk Y4 #[(Value.int .i64) ec, Value.bool ef, (Value.int .i64) ea, (Value.int .i64) eb, (Value.int .i64) er, Value.bool ek] 39 * (irow (.slice A W2.length c) W2 * (blk X #[(Value.int .i64) 0, (Value.int .i64) 0] 27 * old w w.heap.size))))) := hr.eq (by ac_rfl)
            obtain ⟨f0, f1, f2⟩ := h13.right.cells3
            have fl := h13.right.lt
            clear hr
            go_wp2_with fail
            refine (HFD.out _ _ h13).mono ?_; rintro e w14 ⟨rfl, b14⟩
            have h15 : Has _ (blk w14.heap.size #[(Value.int .i64) nm.page, (Value.int .i64) nm.size, (Value.int .i64) nm.frame, (Value.int .i64) nm.rights] 31 * (blk (w14.heap.size + 1) #[Value.bool nx.there, Value.bool nx.leaf, (Value.int .i64) nx.rights, Value.bool nx.used, Value.bool nx.dirty, (Value.int .i64) nx.frame] 51 * (blk Y1 #[(Value.int .i64) a2.page, (Value.int .i64) a2.kind, Value.bool a2.user] 33 * (blk Y4 #[(Value.int .i64) ec, Value.bool ef, (Value.int .i64) ea, (Value.int .i64) eb, (Value.int .i64) er, Value.bool ek] 39 * (spaceAt p σ2 * (irow (.slice A W2.length c) W2 * (blk X #[(Value.int .i64) 0, (Value.int .i64) 0] 27 * old w w.heap.size))))))) := (((h13.below b14).new #[(Value.int .i64) nm.page, (Value.int .i64) nm.size, (Value.int .i64) nm.frame, (Value.int .i64) nm.rights] 31).new #[Value.bool nx.there, Value.bool nx.leaf, (Value.int .i64) nx.rights, Value.bool nx.used, Value.bool nx.dirty, (Value.int .i64) nx.frame] 51).eq (by simp only [World.size_alloc]; ac_rfl)
            have x15 := ((hx.below b14).alloc (.cells #[(Value.int .i64) nm.page, (Value.int .i64) nm.size, (Value.int .i64) nm.frame, (Value.int .i64) nm.rights] 31)).alloc (.cells #[Value.bool nx.there, Value.bool nx.leaf, (Value.int .i64) nx.rights, Value.bool nx.used, Value.bool nx.dirty, (Value.int .i64) nx.frame] 51)
            clear f0 f1 f2 fl h13 hx b14 HFD
            have h16 := h15.right
            clear h15
            go_upto_region 26 with fail
            generalize (w14.alloc (.cells #[(Value.int .i64) nm.page, (Value.int .i64) nm.size, (Value.int .i64) nm.frame, (Value.int .i64) nm.rights] 31)).alloc (.cells #[Value.bool nx.there, Value.bool nx.leaf, (Value.int .i64) nx.rights, Value.bool nx.used, Value.bool nx.dirty, (Value.int .i64) nx.frame] 51) = w15 at *
            generalize w14.heap.size + 1 = Y6 at *
            have h17 : Has w15 (blk Y4 #[(Value.int .i64) ec, Value.bool ef, (Value.int .i64) ea, (Value.int .i64) eb, (Value.int .i64) er, Value.bool ek] 39 * (blk Y6 #[Value.bool nx.there, Value.bool nx.leaf, (Value.int .i64) nx.rights, Value.bool nx.used, Value.bool nx.dirty, (Value.int .i64) nx.frame] 51 * (blk Y1 #[(Value.int .i64) a2.page, (Value.int .i64) a2.kind, Value.bool a2.user] 33 * (spaceAt p σ2 * (irow (.slice A W2.length c) W2 * (blk X #[(Value.int .i64) 0, (Value.int .i64) 0] 27 * old w w.heap.size)))))) := h16.eq (by ac_rfl)
            clear h16
            have e1 := h17.cell 1
            have e2 := h17.cell 2
            have el := h17.lt
            obtain ⟨dn, hdn⟩ : ∃ o, (ef && (decide (ea = 0) && (on2 && (decide (nc = 0) && !bz)))) = o := ⟨_, rfl⟩
            have HBZ1 := Lib.hid (HBZ.out _ _ (h17.eq (show _ = spaceAt p σ2 * (blk Y4 #[(Value.int .i64) ec, Value.bool ef, (Value.int .i64) ea, (Value.int .i64) eb, (Value.int .i64) er, Value.bool ek] 39 * (blk Y6 #[Value.bool nx.there, Value.bool nx.leaf, (Value.int .i64) nx.rights, Value.bool nx.used, Value.bool nx.dirty, (Value.int .i64) nx.frame] 51 * (blk Y1 #[(Value.int .i64) a2.page, (Value.int .i64) a2.kind, Value.bool a2.user] 33 * (irow (.slice A W2.length c) W2 * (blk X #[(Value.int .i64) 0, (Value.int .i64) 0] 27 * old w w.heap.size))))) by ac_rfl)))
            clear HBZ
            go_cut [147] from 128 to 147 (fun s147 wx => s147 = Value.bool dn ∧ wx = w15)
            case first =>
              as_aux_lemma =>
              --[B
              cases ef with
              | false =>
                rw [Bool.false_and] at hdn
                subst hdn
                go_wp2_with fail
                go_meet
                case rel => exact ⟨rfl, rfl⟩
              | true =>
                by_cases hea : ea = 0
                · subst hea
                  cases on2 with
                  | false =>
                    rw [Bool.false_and, Bool.and_false, Bool.and_false] at hdn
                    subst hdn
                    go_wp2_with fail
                    go_meet
                    case rel => exact ⟨rfl, rfl⟩
                  | true =>
                    by_cases hnc0 : nc = 0
                    · subst hnc0
                      rw [show (true && (decide ((0 : Int) = 0) && (true && (decide ((0 : Int) = 0) && !bz)))) = !bz from by simp] at hdn
                      subst hdn
                      go_wp2_with fail
                      refine HBZ1.out.mono ?_; rintro e w18 ⟨rfl, hw⟩
                      subst hw
                      go_wp2_with fail
                      go_meet
                      case rel => exact ⟨rfl, rfl⟩
                    · have hnc' : (nc == 0) = false := by simpa using hnc0
                      rw [decide_eq_false hnc0] at hdn
                      simp at hdn
                      subst hdn
                      go_wp2_with fail
                      go_meet
                      case rel => exact ⟨rfl, rfl⟩
                · have hea' : (ea == 0) = false := by simpa using hea
                  rw [decide_eq_false hea, Bool.false_and, Bool.and_false] at hdn
                  subst hdn
                  go_wp2_with fail
                  go_meet
                  case rel => exact ⟨rfl, rfl⟩
              --B]
            case rest =>
              obtain ⟨rfl, hwr⟩ := hcut
              replace hwr := hwr.symm
              subst hwr
              clear e1 e2 el HBZ1
              go_upto_if 147 with fail
              go_cut [9] from 148 to 158 (fun s9 wx => ∃ (A' : Option Addr) (c' : Nat) (W3 : List Int), s9 = .slice A' W3.length c' ∧ W3.length ≤ W2.length + 1 ∧ Hid (∀ q ∈ W3, MkAt σ2.s q) ∧ Has wx (spaceAt p σ2 * (irow (.slice A' W3.length c') W3 * (blk X #[(Value.int .i64) 0, (Value.int .i64) 0] 27 * old w w.heap.size))) ∧ Ext w wx)
              case first =>
                have h18 := h17.right.right.right
                cases dn with
                | false =>
                  go_wp2_with fail
                  go_meet
                  case rel => exact ⟨A, c, W2, rfl, by omega, HW2, h18, x15⟩
                | true =>
                  as_aux_lemma =>
                  --[C
                  have hd5 : ef = true ∧ ea = 0 ∧ on2 = true ∧ nc = 0 ∧ bz = false := by simpa using hdn
                  obtain ⟨k1, k2, -, -, k5⟩ := hd5
                  have HD4 := Lib.hid (HDN.out k1 k2 k5).2.2.2
                  have hus := HUS.out k1 k2 k5
                  have e3 := h17.right.cell 3
                  rw [show (#[Value.bool nx.there, Value.bool nx.leaf, (Value.int .i64) nx.rights, Value.bool nx.used, Value.bool nx.dirty, (Value.int .i64) nx.frame])[3]? = some (Value.bool nx.used) from rfl, hus] at e3
                  have el := h17.right.lt
                  obtain ⟨g0, g1, -⟩ := h17.right.right.cells3
                  have gl := h17.right.right.lt
                  clear k1 k2 k5 hus HDN HUS hdn hnx hnc
                  by_cases hk1 : a2.kind = 1
                  · have hk1' : (a2.kind == 1) = true := by simpa using hk1
                    have HW3 : Hid (∀ q ∈ W2 ++ [a2.page], MkAt σ2.s q) := Lib.hid fun q hq => by
                      rcases List.mem_append.1 hq with hq | hq
                      · exact HW2.out q hq
                      · rw [List.mem_singleton] at hq
                        rw [hq]
                        exact HD4.out hk1
                    have h19 : Has w15 (irow (.slice A W2.length c) W2 * (spaceAt p σ2 * (blk X #[(Value.int .i64) 0, (Value.int .i64) 0] 27 * old w w.heap.size))) := h18.p2
                    clear hk1
                    go_wp2_with (at_builtin; refine wpList_append_has rfl _ _ 47 rfl Try.underlying47 elemI _ _ _ rfl (h19.alloc _) ⟨w15.heap.size, 0, none⟩ 1 1 [(Value.int .i64) a2.page] rfl rfl (news_one _ _ _) ?c1 ?c2 ?c3 ?_)
                    case c1 => intro u hu; simp at hu; subst hu; rfl
                    case c2 => unfold maxLen; omega
                    case c3 => omega
                    intro v' w' h' x'
                    obtain ⟨A3, c3, rfl⟩ := h'.rowForm
                    have h20 : Has w' (irow (.slice A3 (W2 ++ [a2.page]).length c3) (W2 ++ [a2.page]) * (spaceAt p σ2 * (blk X #[(Value.int .i64) 0, (Value.int .i64) 0] 27 * old w w.heap.size))) := by
                      unfold irow
                      simpa using h'
                    have x20 := (x15.alloc (.cells #[(Value.int .i64) a2.page] 3)).trans x'
                    clear h' h19 h18 h17 x' x15
                    go_wp2_with fail
                    go_meet
                    case rel => exact ⟨A3, c3, W2 ++ [a2.page], by simp, by simp, HW3, h20.p2, x20⟩
                  · have hk1' : (a2.kind == 1) = false := by simpa using hk1
                    go_wp2_with fail
                    go_meet
                    case rel => exact ⟨A, c, W2, rfl, by omega, HW2, h18, x15⟩
                  --C]
              case rest =>
                clear h17 x15 hdn HDN HUS hnx hnc HW2
                obtain ⟨A, c, W3, rfl, hW3, HW3, hr, hx⟩ := hcut
                go_wp2_with fail
                go_loopw [22] (fun t wz => ∃ k : Nat, k ≤ W3.length ∧ t = (Value.int .i64) k ∧ Has wz (spaceAt p σ2 * (irow (.slice A W3.length c) W3 * (blk X #[(Value.int .i64) 0, (Value.int .i64) 0] 27 * old w w.heap.size))) ∧ Ext w wz) (fun t _ => W3.length - (intOf t).toNat)
                case atStart => exact ⟨0, by omega, rfl, hr, hx⟩
                case round =>
                  clear hr hx
                  obtain ⟨k, hk, rfl, hz, hxz⟩ := hrel
                  by_cases hkl : k < W3.length
                  · obtain ⟨bG, rfl, hbG, cG⟩ := irow_at hz.right hkl
                    obtain ⟨q1, q2⟩ := HMF.out _ (HW3.out _ (List.getElem_mem hkl))
                    have HF := Lib.hid (fun R w h => HFW.out W3[k] R w h)
                    rw [q1, q2] at HF
                    clear q1 q2
                    generalize W3[k] = wk at *
                    generalize findM σ2.s 0 wk = km at *
                    generalize findE σ2.s 0 wk = kx at *
                    go_wp2_with fail
                    refine (HF.out _ _ hz).mono ?_; rintro e w21 ⟨rfl, b21⟩
                    have h22 : Has _ (blk (w21.heap.size + 1) #[Value.bool kx.there, Value.bool kx.leaf, (Value.int .i64) kx.rights, Value.bool kx.used, Value.bool true, (Value.int .i64) kx.frame] 51 * (blk w21.heap.size #[(Value.int .i64) km.page, (Value.int .i64) km.size, (Value.int .i64) km.frame, (Value.int .i64) km.rights] 31 * (spaceAt p σ2 * (irow (.slice (some ⟨bG, 0, none⟩) W3.length c) W3 * (blk X #[(Value.int .i64) 0, (Value.int .i64) 0] 27 * old w w.heap.size))))) := (((hz.below b21).new #[(Value.int .i64) km.page, (Value.int .i64) km.size, (Value.int .i64) km.frame, (Value.int .i64) km.rights] 31).new #[Value.bool kx.there, Value.bool kx.leaf, (Value.int .i64) kx.rights, Value.bool kx.used, Value.bool true, (Value.int .i64) kx.frame] 51).eq (by simp only [World.size_alloc] <;> ac_rfl)
                    have x22 := ((hxz.below b21).alloc (.cells #[(Value.int .i64) km.page, (Value.int .i64) km.size, (Value.int .i64) km.frame, (Value.int .i64) km.rights] 31)).alloc (.cells #[Value.bool kx.there, Value.bool kx.leaf, (Value.int .i64) kx.rights, Value.bool kx.used, Value.bool true, (Value.int .i64) kx.frame] 51)
                    have e4 := h22.cell 4
                    have el := h22.lt
                    have h23 := h22.right.right
                    clear hz hxz b21 hbG cG h22 HF
                    go_wp2_with fail
                    go_roundw
                    case rel => exact ⟨k + 1, by omega, by go_num, h23, x22⟩
                    case measure => simp [intOf]; omega
                  · obtain rfl : k = W3.length := by omega
                    have h24 : Has wr (irow (.slice A W3.length c) W3 * (spaceAt p σ2 * (blk X #[(Value.int .i64) 0, (Value.int .i64) 0] 27 * old w w.heap.size))) := hz.p2
                    have HH2 : Hid (Safe σ2 P2 ∧ ∀ q ∈ W3, MkAt σ2.s q) := Lib.hid ⟨HS2.out, HW3.out⟩
                    go_wp2_with fail
                    go_roundw
                    case rel => exact ⟨i + 1, σ2, P2, W3, A, c, by omega, by omega, rfl, by go_num, HH2, h24, hxz⟩
                    case measure => simp [intOf]; omega
    · obtain rfl : i = m := by omega
      go_wp2_with fail
      go_ret
      exact ⟨rfl, below_of1 hr.right.right.right hx⟩
end Go.Proofs.Ytmfheghbgihdmaa
