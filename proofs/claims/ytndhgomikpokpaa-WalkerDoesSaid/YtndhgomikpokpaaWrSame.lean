/- The law WalkerSame: the walk. -/
import Derived.Test.YtndhgomikpokpaaWrFin
import Derived.Test.YtndhgomikpokpaaWrBegun
import Derived.Test.YtndhgomikpokpaaIrow
import Derived.Test.YtndhgomikpokpaaRefIn
import Derived.Deep.DeepCutAuto
namespace Go.Proofs.Ytndhgomikpokpaa
open Go.RowKit
set_option maxRecDepth 100000

theorem nodup_in {l : List Int} (h : ∀ i (hi : i < l.length), inB (l.take i) l[i] = false) : l.Nodup := by
  rw [List.nodup_iff_pairwise_ne, List.pairwise_iff_getElem]
  intro i j hi hj hij e
  have := h j hj
  unfold inB at this
  rw [List.any_eq_false] at this
  exact this l[i] (List.mem_take_iff_getElem.2 ⟨i, by omega, rfl⟩) (by simp [e])
theorem begC_zero (a : Ac) : begC Ck.zero a = checkAccess a := by
  unfold begC
  split
  · rfl
  · rename_i h
    have : checkAccess a = 0 := by simpa using h
    rw [this]
    rfl
theorem begC_off {c : Ck} {a : Ac} (h : c.on = false) : begC c a = checkAccess a := by
  unfold begC
  split
  · rfl
  · rename_i h'
    have : checkAccess a = 0 := by simpa using h'
    rw [this, if_neg (by rw [h]; simp)]
theorem begS_yes {c : Ck} {a : Ac} (root : Int) (h : c.on = false) (ha : checkAccess a = 0) : begS c root a = c.begin root a := by
  unfold begS
  rw [begC_off h, if_pos ha]
theorem OnWay.begin (s : Ms) (root : Int) (c : Ck) {a : Ac} (ha : checkAccess a = 0) : OnWay s root a 0 (c.begin root a) := OnWay.start s root ha rfl rfl rfl rfl rfl
theorem OnWay.again {s : Ms} {root : Int} {c : Ck} {a : Ac} (ha : checkAccess a = 0) (hon : c.on = true) (hc : c.a = a) : OnWay s root a 0 (c.again root) := by
  have : c.again root = { c with t := root, level := 3, mark := false } := by unfold Ck.again; rw [if_pos hon]
  rw [this]
  exact OnWay.start s root ha hon hc rfl rfl rfl
set_option maxHeartbeats 8000000 in
theorem walkerSame_walk (N : Int) (A : Option Addr) (n c : Nat) (l : List Int) (a : Ac) (T : Int) (w : World) (_ : i64 N) (h : Arr w A n 1 (l.map cellsU)) (hok : ∀ x ∈ l, u64 x) (_ : a.ok) (_ : i64 T) :
    Calls Try.prog 8 #[(Value.int .i64) N, .slice A n c, .agg #[(Value.int .i64) a.page, (Value.int .i64) a.kind, Value.bool a.user], (Value.int .i64) T] w (Pure (Value.bool true) w) := by
  have hm := h.2.1
  have hA := Lib.hid h
  clear h
  have h0 := (has_old w).new #[(Value.int .i64) a.page, (Value.int .i64) a.kind, Value.bool a.user] 29
  have x0 := (Ext.refl w).alloc (.cells #[(Value.int .i64) a.page, (Value.int .i64) a.kind, Value.bool a.user] 29)
  have HB := Lib.hid (fun w => walkerBegun_any w)
  by_cases hN0 : N < 1
  · go_enter Try.func8, Try.ntmps8
    go_wp2_with (refine (HB.out _).mono ?_; rintro e w1 ⟨rfl, hb⟩)
    go_ret
    exact ⟨rfl, below_of1 (h0.below hb).right (x0.below hb)⟩
  by_cases hN1 : 128 < N
  · go_enter Try.func8, Try.ntmps8
    go_wp2_with (refine (HB.out _).mono ?_; rintro e w1 ⟨rfl, hb⟩)
    go_ret
    exact ⟨rfl, below_of1 (h0.below hb).right (x0.below hb)⟩
  by_cases hbig : 2000 < n
  · go_enter Try.func8, Try.ntmps8
    go_wp2_with (refine (HB.out _).mono ?_; rintro e w1 ⟨rfl, hb⟩)
    go_ret
    exact ⟨rfl, below_of1 (h0.below hb).right (x0.below hb)⟩
  have hs := memS_ok (n := N) (taken := N) (ws := l) (by omega) (by omega) hok
  go_enter Try.func8, Try.ntmps8
  go_wp2_with fail
  refine (HB.out _).mono ?_; rintro e w1 ⟨rfl, hb⟩
  have h1 := h0.below hb
  have x1 := x0.below hb
  have hA1 := hA.out.old1 h1.right x1
  clear h0 hb x0
  go_wp2_with fail
  refine (memory_any N N A n c l _ (by omega) (by omega) hA1 hok).mono ?_; rintro e w2 ⟨f, q1, rfl, h2, x2⟩
  have h3 := (h1.onto' h2.a2).a1
  have x3 := x1.trans x2
  have hA3 := hA.out.old1 h3.right.right.right x3
  clear h1 x1 h2 x2 hA1
  go_wp2_with fail
  refine (memory_any N N A n c l _ (by omega) (by omega) hA3 hok).mono ?_; rintro e w4 ⟨g, q2, rfl, h4, x4⟩
  have h5 := (h3.onto' h4.a2).a1
  have x5 := x3.trans x4
  clear h3 x3 h4 x4 hA3 hA
  generalize memS N N l = s at *
  have h6 : Has w4 (blk w.heap.size #[(Value.int .i64) a.page, (Value.int .i64) a.kind, Value.bool a.user] 29 * (framesAt f s * (framesAt g s * (memAt q1 s * (memAt q2 s * old w w.heap.size))))) := h5.eq (by ac_rfl)
  clear h5
  obtain ⟨a0, a1, a2⟩ := h6.cells3
  have al := h6.lt
  have F1 := Lib.hid (fun R w h => find_way f s 0 a.page R w hs h)
  generalize hy : way s 0 a.page = y at *
  have HY := Lib.hid hy
  clear hy
  go_wp2_with fail
  refine (F1.out _ _ h6.right).mono ?_; rintro e w7 hF
  obtain ⟨B1, B2, d1, d2, rfl, h7, x7⟩ : ∃ (A B : Option Addr) (c d : Nat), e = .returned (.tuple #[.agg #[(Value.int .i64) y.lev, Value.bool y.e.there, Value.bool y.e.leaf, (Value.int .i64) y.e.rights, Value.bool y.e.used, Value.bool y.e.dirty, (Value.int .i64) y.e.frame, .slice A y.tabs.length c, .slice B y.tabs.length d], (Value.int .i64) y.code]) ∧ Has w7 (irow (.slice A y.tabs.length c) y.tabs * (irow (.slice B y.tabs.length d) (placesOf a.page y.tabs.length) * old w4 w4.heap.size)) ∧ Ext w4 w7 := hF
  go_upto_region 10 with fail
  have h8 := (h6.onto' h7.a2).a1.new #[(Value.int .i64) y.lev, Value.bool y.e.there, Value.bool y.e.leaf, (Value.int .i64) y.e.rights, Value.bool y.e.used, Value.bool y.e.dirty, (Value.int .i64) y.e.frame, .slice B1 y.tabs.length d1, .slice B2 y.tabs.length d2] 108
  have x8 := (x5.trans x7).alloc (.cells #[(Value.int .i64) y.lev, Value.bool y.e.there, Value.bool y.e.leaf, (Value.int .i64) y.e.rights, Value.bool y.e.used, Value.bool y.e.dirty, (Value.int .i64) y.e.frame, .slice B1 y.tabs.length d1, .slice B2 y.tabs.length d2] 108)
  generalize w7.alloc (.cells #[(Value.int .i64) y.lev, Value.bool y.e.there, Value.bool y.e.leaf, (Value.int .i64) y.e.rights, Value.bool y.e.used, Value.bool y.e.dirty, (Value.int .i64) y.e.frame, .slice B1 y.tabs.length d1, .slice B2 y.tabs.length d2] 108) = w8 at *
  generalize w7.heap.size = X8 at *
  clear h6 x5 h7 x7 a0 a1 a2 al F1
  have h9 : Has w8 (irow (.slice B1 y.tabs.length d1) y.tabs * (blk X8 #[(Value.int .i64) y.lev, Value.bool y.e.there, Value.bool y.e.leaf, (Value.int .i64) y.e.rights, Value.bool y.e.used, Value.bool y.e.dirty, (Value.int .i64) y.e.frame, .slice B1 y.tabs.length d1, .slice B2 y.tabs.length d2] 108 * (irow (.slice B2 y.tabs.length d2) (placesOf a.page y.tabs.length) * (blk w.heap.size #[(Value.int .i64) a.page, (Value.int .i64) a.kind, Value.bool a.user] 29 * (framesAt f s * (framesAt g s * (memAt q1 s * (memAt q2 s * old w w.heap.size)))))))) := h8.eq (by ac_rfl)
  clear h8
  go_upto_if 71 with fail
  go_cut [] (fun wx => (y.code = 0 → y.tabs.Nodup) ∧ Has wx (blk w.heap.size #[(Value.int .i64) a.page, (Value.int .i64) a.kind, Value.bool a.user] 29 * (framesAt f s * (framesAt g s * (memAt q1 s * (memAt q2 s * old w w.heap.size))))) ∧ Ext w wx)
  case first =>
    have hcap : y.tabs.length ≤ d1 := (irow_cap h9).1
    have hsm := irow_small h9
    by_cases hc : y.code = 0
    · have hc' : (y.code == 0) = true := by simpa using hc
      go_wp2_with fail
      go_loopw [15] (fun t wx => ∃ i : Nat, i ≤ y.tabs.length ∧ t = (Value.int .i64) i ∧ Below w8.heap.size w8 wx ∧ Hid (∀ j (hj : j < y.tabs.length), j < i → inB (y.tabs.take j) y.tabs[j] = false)) (fun t _ => y.tabs.length - (intOf t).toNat)
      case atStart => exact ⟨0, Nat.zero_le _, rfl, Below.refl _ _, Lib.hid fun j _ h => absurd h (Nat.not_lt_zero _)⟩
      case round =>
        obtain ⟨i, hi, rfl, BW, HA⟩ := hrel
        have h10 := h9.below BW
        have BW' := Lib.hid BW
        clear BW
        obtain ⟨_, _, _, _, _, _, _, s7, _⟩ := h10.right.cells9
        have sl := h10.right.lt
        by_cases hlt : i < y.tabs.length
        · obtain ⟨gb, rfl, hg, d0⟩ := irow_at h10 hlt
          have hrd := irow_take h10 i hi
          have v7 := via_cell s7
          have v0 := via_cell d0
          have HI := Lib.hid (fun u => in_any (some ⟨gb, 0, none⟩) i d1 (y.tabs.take i) y.tabs[i] (via wr u) (hrd.below (via_below wr u)))
          have HA1 := Lib.hid (show inB (y.tabs.take i) y.tabs[i] = inB (y.tabs.take i) y.tabs[i] from rfl)
          clear d0 hrd
          generalize hq : inB (y.tabs.take i) y.tabs[i] = b at HI
          have HQ := Lib.hid hq
          clear hq HA1
          generalize y.tabs[i] = t at HI v0
          cases b with
          | true =>
            go_wp2_with fail
            refine wp_region_via (by kernel_rfl) (by kernel_rfl) ?_
            repeat (first | go_big_quiet_step ((go_at_call 56; exact Same.via (HI.out _))) | quiet_step ((go_at_call 56; exact Same.via (HI.out _))))
            refine wpQuiet_nil ?_
            intro _ hw'
            obtain ⟨uq, hw''⟩ := hw'
            subst hw''
            go_wp2_with fail
            go_ret
            exact ⟨rfl, below_of1 (h10.via uq).right.right.right.right.right.right.right.right (x8.below (BW'.out.trans ((via_below _ _).mono BW'.out.size)))⟩
          | false =>
            go_wp2_with fail
            refine wp_region_via (by kernel_rfl) (by kernel_rfl) ?_
            repeat (first | go_big_quiet_step ((go_at_call 56; exact Same.via (HI.out _))) | quiet_step ((go_at_call 56; exact Same.via (HI.out _))))
            refine wpQuiet_nil ?_
            intro _ hw'
            obtain ⟨uq, hw''⟩ := hw'
            subst hw''
            go_wp2_with fail
            go_roundw
            case rel =>
              refine ⟨i + 1, by omega, by go_num, BW'.out.trans ((via_below _ _).mono BW'.out.size), Lib.hid fun j hj hjk => ?_⟩
              by_cases e : j = i
              · subst e; exact HQ.out
              · exact HA.out j hj (by omega)
            case measure => simp [intOf]; omega
        · obtain rfl : i = y.tabs.length := by omega
          go_wp2_with fail
          go_meet
          case rel => exact ⟨fun _ => nodup_in fun j hj => HA.out j hj hj, h10.right.right.right, x8.below BW'.out⟩
    · have hc' : (y.code == 0) = false := by simpa using hc
      go_wp2_with fail
      go_meet
      case rel => exact ⟨fun h => absurd h hc, h9.right.right.right, x8⟩
  case rest =>
    obtain ⟨hnd, h10, x10⟩ := hcut
    have HND := Lib.hid hnd
    clear hnd h9 x8
    obtain ⟨a0, a1, a2⟩ := h10.cells3
    have al := h10.lt
    go_wp2_with fail
    refine (newW 0 _ _ h10).mono ?_; rintro e w11 ⟨k1, rfl, h11, x11⟩
    have x11 := x10.trans x11
    go_wp2_with fail
    refine (newW 0 _ _ h11).mono ?_; rintro e w12 ⟨k2, rfl, h12, x12⟩
    have x12 := x11.trans x12
    have h13 : Has w12 (walkerAt k1 0 Ck.zero * (walkerAt k2 0 Ck.zero * (blk w.heap.size #[(Value.int .i64) a.page, (Value.int .i64) a.kind, Value.bool a.user] 29 * (framesAt f s * (framesAt g s * (memAt q1 s * (memAt q2 s * old w w.heap.size))))))) := h12.p2
    clear h10 x10 h11 x11 h12 a0 a1 a2 al
    obtain ⟨a0, a1, a2⟩ := h13.right.right.cells3
    have al := h13.right.right.lt
    have BG1 := Lib.hid (fun k R w h => beginW k 0 Ck.zero a R w h)
    rw [begC_zero] at BG1
    by_cases hck : checkAccess a = 0
    case neg =>
      have hn : (checkAccess a != 0) = true := by simpa using hck
      generalize checkAccess a = ca at *
      generalize begS Ck.zero 0 a = cb at *
      go_wp2_with fail
      refine (BG1.out _ _ _ h13).mono ?_; rintro e w14 ⟨rfl, h14, x14⟩
      go_wp2_with fail
      go_ret
      exact ⟨rfl, below_of1 h14.right.right.right.right.right.right.right (x12.trans x14)⟩
    case pos =>
      have HW0 := Lib.hid (OnWay.begin s 0 Ck.zero hck)
      have HCK := Lib.hid hck
      rw [hck, begS_yes 0 rfl hck] at BG1
      clear hck
      generalize Ck.zero.begin 0 a = cb at *
      go_wp2_with fail
      refine (BG1.out _ _ _ h13).mono ?_; rintro e w14 ⟨rfl, h14, x14⟩
      have x14 := x12.trans x14
      clear a0 a1 a2 al
      obtain ⟨a0, a1, a2⟩ := h14.right.right.cells3
      have al := h14.right.right.lt
      go_wp2_with fail
      refine (BG1.out _ _ _ h14.p2).mono ?_; rintro e w15 ⟨rfl, h15, x15⟩
      have x15 := x14.trans x15
      clear a0 a1 a2 al BG1 h13 x12 h14 x14
      go_upto_block 2 with fail
      have h16 : Has w15 (walkerAt k2 0 cb * (framesAt g s * (walkerAt k1 0 cb * (framesAt f s * (blk w.heap.size #[(Value.int .i64) a.page, (Value.int .i64) a.kind, Value.bool a.user] 29 * (memAt q1 s * (memAt q2 s * old w w.heap.size))))))) := h15.eq (by ac_rfl)
      clear h15
      go_cut [] (fun wx => ∃ (c' : Ck) (s' : Ms), (c'.on = true → c'.a = a ∧ s' = s) ∧ Has wx (walkerAt k2 0 c' * (framesAt g s' * (walkerAt k1 0 cb * (framesAt f s * (blk w.heap.size #[(Value.int .i64) a.page, (Value.int .i64) a.kind, Value.bool a.user] 29 * (memAt q1 s * (memAt q2 s * old w w.heap.size))))))) ∧ Ext w wx)
      case first =>
        go_wp2_with fail
        go_loopw [18] (fun t wr => ∃ (i : Nat) (c' : Ck) (s' : Ms), i ≤ 5 ∧ t = (Value.int .i64) i ∧ Hid (c'.on = true → OnWay s 0 a i c' ∧ s' = s) ∧ Has wr (walkerAt k2 0 c' * (framesAt g s' * (walkerAt k1 0 cb * (framesAt f s * (blk w.heap.size #[(Value.int .i64) a.page, (Value.int .i64) a.kind, Value.bool a.user] 29 * (memAt q1 s * (memAt q2 s * old w w.heap.size))))))) ∧ Ext w wr) (fun t _ => 6 - (intOf t).toNat)
        case atStart => exact ⟨0, cb, s, by omega, rfl, Lib.hid fun _ => ⟨HW0.out, rfl⟩, h16, x15⟩
        case round =>
          clear h16 x15
          obtain ⟨i, c', s', hi, rfl, HW, hr, hx⟩ := hrel
          have O1 := Lib.hid (fun R w h => onW k2 0 c' R w h)
          cases hon : c'.on with
          | false =>
            rw [hon] at O1
            have HOF := Lib.hid hon
            clear hon
            go_wp2_with (first | (refine (O1.out _ _ hr).mono ?_; rintro e w16 ⟨rfl, rfl⟩))
            all_goals
              go_meet
              case rel => exact ⟨c', s', fun h => (by rw [HOF.out] at h; cases h), hr, hx⟩
          | true =>
            obtain ⟨hw, rfl⟩ := HW.out hon
            rw [hon] at O1
            clear hon HW
            have hi4 := hw.few
            have HACC := Lib.hid hw.acc
            have HS := Lib.hid (fun R w h => stepW k2 g 0 c' s' hs hw.ok R w h)
            have hst := hw.step
            clear hw
            generalize stepC s' 0 c' = p at *
            obtain ⟨c2, s2, r, code⟩ := p
            go_wp2_with (first | (go_at_call 53; refine (O1.out _ _ hr).mono ?_; rintro e w16 ⟨rfl, rfl⟩) | (go_at_call 25; refine (HS.out _ _ hr).mono ?_; rintro e w17 ⟨rfl, h17, x17⟩))
            · rename_i hcode
              go_meet
              case rel =>
                cases hst with
                | bad hc hy1 hrr hss hk =>
                  dsimp only at hss hk
                  subst hss hk
                  exact ⟨_, _, fun _ => ⟨HACC.out, rfl⟩, h17.alloc _, (hx.trans x17).alloc _⟩
                | on hc hrr hss hwn =>
                  dsimp only at hc
                  rw [hc] at hcode
                  cases hcode
                | done hc hy1 hrr hss hcnt hoff hok2 =>
                  dsimp only at hc
                  rw [hc] at hcode
                  cases hcode
            · rename_i hcode
              have hcode : code = 0 := by simpa using hcode
              go_roundw
              case rel =>
                cases hst with
                | bad hc hy1 hrr hss hk => exact absurd hcode hc
                | on hc hrr hss hwn =>
                  dsimp only at hss hwn
                  subst hss
                  exact ⟨i + 1, _, _, by omega, by go_num, Lib.hid fun _ => ⟨hwn, rfl⟩, h17.alloc _, (hx.trans x17).alloc _⟩
                | done hc hy1 hrr hss hcnt hoff hok2 =>
                  dsimp only at hoff
                  exact ⟨i + 1, _, _, by omega, by go_num, Lib.hid fun h => (by rw [hoff] at h; cases h), h17.alloc _, (hx.trans x17).alloc _⟩
              case measure => simp [intOf]; omega
            · go_meet
              case rel => exact ⟨_, _, fun _ => ⟨HACC.out, rfl⟩, hr, hx⟩
      case rest =>
        clear h16 x15
        obtain ⟨c', s', HC, h16, x16⟩ := hcut
        have O1 := Lib.hid (fun R w h => onW k2 0 c' R w h)
        cases hon : c'.on with
        | false =>
          rw [hon] at O1
          go_wp2_with (refine (O1.out _ _ h16).mono ?_; rintro e w17 ⟨rfl, rfl⟩)
          go_ret
          exact ⟨rfl, below_of1 h16.right.right.right.right.right.right.right x16⟩
        | true =>
          obtain ⟨hca, rfl⟩ := HC hon
          have hwa := Lib.hid (OnWay.again (s := s') (root := 0) HCK.out hon hca)
          rw [hon] at O1
          have AG := Lib.hid (fun R w h => againW k2 0 c' R w h)
          clear hon HC
          generalize c'.again 0 = c2 at *
          go_wp2_with fail
          refine (O1.out _ _ h16).mono ?_; rintro e w17 ⟨rfl, rfl⟩
          go_wp2_with fail
          refine (AG.out _ _ h16).mono ?_; rintro e w18 ⟨rfl, h18, x18⟩
          have h19 : Has w18 (walkerAt k1 0 cb * (framesAt f s' * (walkerAt k2 0 c2 * (framesAt g s' * (blk w.heap.size #[(Value.int .i64) a.page, (Value.int .i64) a.kind, Value.bool a.user] 29 * (memAt q1 s' * (memAt q2 s' * old w w.heap.size))))))) := h18.eq (by ac_rfl)
          have x19 := x16.trans x18
          have F1 := Lib.hid (fun R w h => finishW k1 f 0 a s' hs cb HW0.out R w h)
          have F2 := Lib.hid (fun R w h => finishW k2 g 0 a s' hs c2 hwa.out R w h)
          rw [HY.out] at F1 F2
          clear h16 h18 x16 x18 O1 AG
          go_wp2_with fail
          refine (F1.out _ _ h19).mono ?_; rintro e w20 ⟨r1, n1, c1', s1', rfl, h20, x20, hbad1, hok1⟩
          have h21 := (h20.new #[Value.bool r1.fin, (Value.int .i64) r1.an.fin, (Value.int .i64) r1.an.frame, (Value.int .i64) r1.an.rights, (Value.int .i64) r1.ln.m.page, (Value.int .i64) r1.ln.m.size, (Value.int .i64) r1.ln.m.frame, (Value.int .i64) r1.ln.m.rights, Value.bool r1.ln.dirty] 53)
          have x21 := (x19.trans x20).alloc (.cells #[Value.bool r1.fin, (Value.int .i64) r1.an.fin, (Value.int .i64) r1.an.frame, (Value.int .i64) r1.an.rights, (Value.int .i64) r1.ln.m.page, (Value.int .i64) r1.ln.m.size, (Value.int .i64) r1.ln.m.frame, (Value.int .i64) r1.ln.m.rights, Value.bool r1.ln.dirty] 53)
          clear h19 x19 h20 x20
          have h22 : Has _ (walkerAt k2 0 c2 * (framesAt g s' * (blk w20.heap.size #[Value.bool r1.fin, (Value.int .i64) r1.an.fin, (Value.int .i64) r1.an.frame, (Value.int .i64) r1.an.rights, (Value.int .i64) r1.ln.m.page, (Value.int .i64) r1.ln.m.size, (Value.int .i64) r1.ln.m.frame, (Value.int .i64) r1.ln.m.rights, Value.bool r1.ln.dirty] 53 * (walkerAt k1 0 c1' * (framesAt f s1' * (blk w.heap.size #[(Value.int .i64) a.page, (Value.int .i64) a.kind, Value.bool a.user] 29 * (memAt q1 s' * (memAt q2 s' * old w w.heap.size)))))))) := h21.eq (by ac_rfl)
          go_wp2_with fail
          refine (F2.out _ _ h22).mono ?_; rintro e w23 ⟨r2, n2, c2', s2', rfl, h23, x23, hbad2, hok2⟩
          clear h21 h22 F1 F2
          have x23 := x21.trans x23
          have HXY := Lib.hid (show r1 = r2 by
            by_cases hc : y.code = 0
            · rw [(hok1 hc).1, (hok2 hc).1]
            · rw [hbad1 hc, hbad2 hc])
          obtain rfl := HXY.out
          have h24 := h23.new #[Value.bool r1.fin, (Value.int .i64) r1.an.fin, (Value.int .i64) r1.an.frame, (Value.int .i64) r1.an.rights, (Value.int .i64) r1.ln.m.page, (Value.int .i64) r1.ln.m.size, (Value.int .i64) r1.ln.m.frame, (Value.int .i64) r1.ln.m.rights, Value.bool r1.ln.dirty] 53
          have x24 := x23.alloc (.cells #[Value.bool r1.fin, (Value.int .i64) r1.an.fin, (Value.int .i64) r1.an.frame, (Value.int .i64) r1.an.rights, (Value.int .i64) r1.ln.m.page, (Value.int .i64) r1.ln.m.size, (Value.int .i64) r1.ln.m.frame, (Value.int .i64) r1.ln.m.rights, Value.bool r1.ln.dirty] 53)
          clear h23 x23 x21 HXY hbad2 hok2 hbad1
          go_upto_region 29 with fail
          generalize w23.alloc (.cells #[Value.bool r1.fin, (Value.int .i64) r1.an.fin, (Value.int .i64) r1.an.frame, (Value.int .i64) r1.an.rights, (Value.int .i64) r1.ln.m.page, (Value.int .i64) r1.ln.m.size, (Value.int .i64) r1.ln.m.frame, (Value.int .i64) r1.ln.m.rights, Value.bool r1.ln.dirty] 53) = w24 at *
          generalize w23.heap.size = Y2 at *
          generalize w20.heap.size = Y1 at *
          obtain ⟨e0, e1, e2, e3, e4, e5, e6, e7, e8⟩ := h24.cells9
          have el := h24.lt
          obtain ⟨d0', d1', d2', d3', d4', d5', d6', d7', d8'⟩ := h24.right.right.right.cells9
          have dl := h24.right.right.right.lt
          obtain ⟨a0, a1, a2⟩ := h24.right.right.right.right.right.right.cells3
          have al := h24.right.right.right.right.right.right.lt
          by_cases hc : y.code = 0
          case neg =>
            have hn : (y.code != 0) = true := by simpa using hc
            clear hok1
            go_wp2_with fail
            go_ret
            exact ⟨rfl, below_of1 h24.right.right.right.right.right.right.right.right.right x24⟩
          case pos =>
            obtain ⟨hr1, hn1, hoff, hck', hs1⟩ := hok1 hc
            have hnd := HND.out hc
            obtain ⟨y', hy', hc', _, hr', hcnt⟩ := way_again (s := s') (root := 0) (a := a) (by rw [HY.out]; exact hc) (by rw [HY.out]; exact hnd)
            rw [HY.out, ← hs1] at hy'
            rw [HY.out, ← hr1] at hr'
            rw [HY.out, ← hn1] at hcnt
            have hs1k : s1'.Ok := by rw [hs1]; exact endS_ok hs _ _
            have BG := Lib.hid (fun R w h => beginW k1 0 c1' a R w h)
            rw [begC_off hoff, HCK.out, begS_yes 0 hoff HCK.out] at BG
            have F3 := Lib.hid (fun R w h => finishW k1 f 0 a s1' hs1k (c1'.begin 0 a) (OnWay.begin s1' 0 c1' HCK.out) R w h)
            rw [hy'] at F3
            have HR' := Lib.hid hr'
            have HCNT := Lib.hid hcnt
            have HC' := Lib.hid hc'
            have hcz : (y.code != 0) = false := by simpa using hc
            have hcq := Lib.hid hc
            clear hok1 hr1 hn1 hoff hck' hs1 hnd hy' hr' hcnt hs1k hc'
            generalize c1'.begin 0 a = c3 at *
            go_wp2_with fail
            have h25 : Has w24 (walkerAt k1 0 c1' * (framesAt f s1' * (blk Y1 #[Value.bool r1.fin, (Value.int .i64) r1.an.fin, (Value.int .i64) r1.an.frame, (Value.int .i64) r1.an.rights, (Value.int .i64) r1.ln.m.page, (Value.int .i64) r1.ln.m.size, (Value.int .i64) r1.ln.m.frame, (Value.int .i64) r1.ln.m.rights, Value.bool r1.ln.dirty] 53 * (blk w.heap.size #[(Value.int .i64) a.page, (Value.int .i64) a.kind, Value.bool a.user] 29 * (memAt q1 s' * (memAt q2 s' * old w w.heap.size)))))) := h24.right.right.right.eq (by ac_rfl)
            clear h24 e0 e1 e2 e3 e4 e5 e6 e7 e8 el d0' d1' d2' d3' d4' d5' d6' d7' d8' dl
            refine (BG.out _ _ h25).mono ?_; rintro e w25 ⟨rfl, h26, x26⟩
            have x26 := x24.trans x26
            clear BG h25 a0 a1 a2 al x24
            go_wp2_with fail
            refine (F3.out _ _ h26).mono ?_; rintro e w27 ⟨r3, n3, c3', s3', rfl, h27, x27, _, hok3⟩
            obtain ⟨hr3, hn3, _⟩ := hok3 HC'.out
            rw [HR'.out] at hr3
            have hr3 := hr3.symm
            subst hr3
            rw [← hn3] at HCNT
            have HLE : decide (n3 ≤ n1) = true := decide_eq_true HCNT.out
            rw [HC'.out]
            have x27 := x26.trans x27
            have h28 := h27.new #[Value.bool r1.fin, (Value.int .i64) r1.an.fin, (Value.int .i64) r1.an.frame, (Value.int .i64) r1.an.rights, (Value.int .i64) r1.ln.m.page, (Value.int .i64) r1.ln.m.size, (Value.int .i64) r1.ln.m.frame, (Value.int .i64) r1.ln.m.rights, Value.bool r1.ln.dirty] 53
            have x28 := x27.alloc (.cells #[Value.bool r1.fin, (Value.int .i64) r1.an.fin, (Value.int .i64) r1.an.frame, (Value.int .i64) r1.an.rights, (Value.int .i64) r1.ln.m.page, (Value.int .i64) r1.ln.m.size, (Value.int .i64) r1.ln.m.frame, (Value.int .i64) r1.ln.m.rights, Value.bool r1.ln.dirty] 53)
            clear h26 x26 h27 x27 hok3 F3 HR' HCNT hn3
            go_upto_region 34 with fail
            generalize w27.alloc (.cells #[Value.bool r1.fin, (Value.int .i64) r1.an.fin, (Value.int .i64) r1.an.frame, (Value.int .i64) r1.an.rights, (Value.int .i64) r1.ln.m.page, (Value.int .i64) r1.ln.m.size, (Value.int .i64) r1.ln.m.frame, (Value.int .i64) r1.ln.m.rights, Value.bool r1.ln.dirty] 53) = w28 at *
            generalize w27.heap.size = Y3 at *
            obtain ⟨e0, e1, e2, e3, e4, e5, e6, e7, e8⟩ := h28.cells9
            have el := h28.lt
            obtain ⟨d0', d1', d2', d3', d4', d5', d6', d7', d8'⟩ := h28.right.right.right.cells9
            have dl := h28.right.right.right.lt
            go_wp2_with fail
            go_ret
            exact ⟨rfl, below_of1 h28.right.right.right.right.right.right.right x28⟩
end Go.Proofs.Ytndhgomikpokpaa
