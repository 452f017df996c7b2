/- The law CoreKeeps: the walk. -/
import Derived.Test.YtndhgomikpokpaaCoreP
import Derived.Test.YtndhgomikpokpaaCorBegun
import Derived.Test.YtndhgomikpokpaaKeepM
import Derived.Test.YtndhgomikpokpaaRefPage
import Derived.Test.YtndhgomikpokpaaFrame
namespace Go.Proofs.Ytndhgomikpokpaa
open Go.RowKit
set_option maxRecDepth 100000

/-- Where the look for a page stands. -/
inductive KS (s0 : Ms) (a : Ac) (i : Nat) (e : Int) (fin : Bool) (an : An) (k : Ck) (s : Ms) (l : List Ln) : Prop
  | run (he : e = 0) (hf : fin = false) (ha : an = An.zero) (hl : l = []) (hs : s = s0) (hw : OnWay s0 0 a i k)
  | bad (he : e ≠ 0) (hf : fin = false) (hl : l = [])
  | done (he : e = 0) (hf : fin = true) (hc : (way s0 0 a.page).code = 0) (ha : an = (endR (way s0 0 a.page) a).an) (hl : l = keepL [] (endR (way s0 0 a.page) a)) (hs : s = endS s0 (way s0 0 a.page) a) (hon : k.on = false) (hk : k.Ok) (hca : checkAccess a = 0)
def kln (m : Mp) (d : Bool) : List Ln := [⟨m, d⟩]
theorem keep_one {m : Mp} {d : Bool} {r : Rs} {a : Ac} (hr : r = ⟨true, answer m a, ⟨m, d⟩⟩) (hf : r.an.fin = 0) (hm : check m = 0) : keepL [] r = kln m d := by
  subst hr
  unfold keepL
  rw [if_pos ⟨rfl, hf⟩]
  unfold Tl.put
  rw [if_pos hm]
  rfl
theorem kln_ok {m : Mp} {d : Bool} (hm : check m = 0) : Tl.Ok (kln m d) := by
  have := Tl.Ok.nil.put ⟨m, d⟩
  unfold Tl.put at this
  rw [if_pos hm] at this
  exact this
theorem kln_beg {m : Mp} {d : Bool} {a : Ac} {k : Ck} (hon : k.on = false) (ha : checkAccess a = 0) (ho : over m a.page = true) (hu : d = true ∨ a.kind ≠ 1) : coreB (kln m d) 0 k a = ⟨answer m a, true, 0, k⟩ := by
  have hh : hitA (kln m d) a = some (answer m a) := by
    unfold hitA kln Tl.find
    rw [List.find?_cons_of_pos (by exact ho)]
    refine if_pos ?_
    rcases hu with h | h
    · exact Or.inl h
    · exact Or.inr (Or.inl h)
  unfold coreB
  rw [if_neg (by rw [ha]; simp), if_neg (by rw [hon]; simp), hh]
theorem kln_drop {m : Mp} {d : Bool} {a : Ac} (hm : meet m ⟨a.page, 0, 0, 0⟩ = true) : Tl.drop (kln m d) ⟨a.page, 0, 0, 0⟩ = [] := by
  unfold Tl.drop kln
  rw [List.filter_cons_of_neg (by simp [hm])]
  rfl
theorem nil_beg {a : Ac} {k : Ck} (hon : k.on = false) (ha : checkAccess a = 0) : coreB [] 0 k a = ⟨An.zero, false, 0, k.begin 0 a⟩ := by
  unfold coreB
  rw [if_neg (by rw [ha]; simp), if_neg (by rw [hon]; simp)]
  rfl
set_option maxHeartbeats 8000000 in
theorem coreKeeps_walk (N : Int) (A : Option Addr) (n c : Nat) (l : List Int) (a : Ac) (w : World) (_ : i64 N) (h : Arr w A n 1 (l.map cellsU)) (hok : ∀ x ∈ l, u64 x) (hac : a.ok) :
    Calls Try.prog 12 #[(Value.int .i64) N, .slice A n c, .agg #[(Value.int .i64) a.page, (Value.int .i64) a.kind, Value.bool a.user]] w (Pure (Value.bool true) w) := by
  have hm := h.2.1
  have hA := Lib.hid h
  have h0 := (has_old w).new #[(Value.int .i64) a.page, (Value.int .i64) a.kind, Value.bool a.user] 29
  have x0 := (Ext.refl w).alloc (.cells #[(Value.int .i64) a.page, (Value.int .i64) a.kind, Value.bool a.user] 29)
  have HB := Lib.hid (coreBegun_any (w.alloc (.cells #[(Value.int .i64) a.page, (Value.int .i64) a.kind, Value.bool a.user] 29)))
  clear h
  by_cases hN0 : N < 1
  · skip
    go_enter Try.func12, Try.ntmps12
    go_wp2_with fail
    refine HB.out.mono ?_; rintro e w1 ⟨rfl, hb⟩
    go_wp2_with fail
    go_ret
    exact ⟨rfl, below_of1 (h0.below hb).right (x0.below hb)⟩
  by_cases hN1 : 128 < N
  · skip
    go_enter Try.func12, Try.ntmps12
    go_wp2_with fail
    refine HB.out.mono ?_; rintro e w1 ⟨rfl, hb⟩
    go_wp2_with fail
    go_ret
    exact ⟨rfl, below_of1 (h0.below hb).right (x0.below hb)⟩
  by_cases hbig : 2000 < n
  · skip
    go_enter Try.func12, Try.ntmps12
    go_wp2_with fail
    refine HB.out.mono ?_; rintro e w1 ⟨rfl, hb⟩
    go_wp2_with fail
    go_ret
    exact ⟨rfl, below_of1 (h0.below hb).right (x0.below hb)⟩
  have hs := memS_ok (n := N) (taken := N) (ws := l) (by omega) (by omega) hok
  have hs0 := memS_has0 (n := N) (by omega) l N (by omega)
  go_enter Try.func12, Try.ntmps12
  go_wp2_with fail
  refine HB.out.mono ?_; rintro e w1 ⟨rfl, hb⟩
  have h1 := h0.below hb
  have x1 := x0.below hb
  have hA1 := hA.out.old1 h1.right x1
  clear h0 x0 hb HB
  go_wp2_with fail
  refine (memory_any N N A n c l _ (by omega) (by omega) hA1 hok).mono ?_; rintro e w2 ⟨f, q, rfl, h2, x2⟩
  have h3 := (h1.onto' h2.a2).a1
  have x3 := x1.trans x2
  clear h1 x1 h2 x2 hA1 hA
  generalize memS N N l = s0 at *
  generalize hX : w.heap.size = X at *
  have HX := Lib.hid hX
  clear hX
  go_wp2_with fail
  refine (newC 0 _ _ h3).mono ?_; rintro e w4 ⟨b, rfl, h4, x4⟩
  have h5 : Has w4 (pcAt b [] 0 Ck.zero * (framesAt f s0 * (blk X #[(Value.int .i64) a.page, (Value.int .i64) a.kind, Value.bool a.user] 29 * (memAt q s0 * old w X)))) := h4.eq (by ac_rfl)
  have x5 := x3.trans x4
  obtain ⟨a0, a1, a2⟩ := h5.right.right.cells3
  have al := h5.right.right.lt
  have HB1 := Lib.hid (fun R w h => beginC b [] 0 Ck.zero a Tl.Ok.nil hac.1 R w h)
  clear h3 x3 h4 x4
  have hst : KS s0 a 0 (coreB [] 0 Ck.zero a).code (coreB [] 0 Ck.zero a).fin (coreB [] 0 Ck.zero a).an (coreB [] 0 Ck.zero a).c s0 [] := by
    by_cases hc : checkAccess a = 0
    · rw [nil_beg rfl hc]
      exact .run rfl rfl rfl rfl rfl (OnWay.start s0 0 hc rfl rfl rfl rfl rfl)
    · rw [show coreB [] 0 Ck.zero a = ⟨An.zero, false, checkAccess a, Ck.zero⟩ by unfold coreB; rw [if_pos hc]]
      exact .bad hc rfl rfl
  generalize coreB [] 0 Ck.zero a = p at *
  obtain ⟨an, fin, code, k1⟩ := p
  dsimp only at HB1 hst
  have HST := Lib.hid hst
  clear hst
  go_wp2_with fail
  refine (HB1.out _ _ h5).mono ?_; rintro e w6 ⟨rfl, h6, x6⟩
  have h7 : Has _ (blk w6.heap.size #[(Value.int .i64) an.fin, (Value.int .i64) an.frame, (Value.int .i64) an.rights] 49 * (pcAt b [] 0 k1 * (framesAt f s0 * (blk X #[(Value.int .i64) a.page, (Value.int .i64) a.kind, Value.bool a.user] 29 * (memAt q s0 * old w X))))) := h6.new #[(Value.int .i64) an.fin, (Value.int .i64) an.frame, (Value.int .i64) an.rights] 49
  have x7 := (x5.trans x6).alloc (.cells #[(Value.int .i64) an.fin, (Value.int .i64) an.frame, (Value.int .i64) an.rights] 49)
  clear h5 x5 h6 x6 HB1 a0 a1 a2 al
  go_upto_region 10 with fail
  generalize w6.alloc (.cells #[(Value.int .i64) an.fin, (Value.int .i64) an.frame, (Value.int .i64) an.rights] 49) = w7 at *
  generalize w6.heap.size = Y at *
  go_wp2_with fail
  go_loopw [11, 12, 13] (fun t11 t12 t13 wr => ∃ (i : Nat) (code : Int) (fin : Bool) (an : An) (k : Ck) (s : Ms) (l : List Ln), i ≤ 9 ∧ t13 = (Value.int .i64) i ∧ t11 = Value.bool fin ∧ t12 = (Value.int .i64) code ∧ Hid (KS s0 a i code fin an k s l) ∧ s.Ok ∧ Has wr (blk Y #[(Value.int .i64) an.fin, (Value.int .i64) an.frame, (Value.int .i64) an.rights] 49 * (pcAt b l 0 k * (framesAt f s * (blk X #[(Value.int .i64) a.page, (Value.int .i64) a.kind, Value.bool a.user] 29 * (memAt q s0 * old w X))))) ∧ Ext w wr) (fun _ _ t13 _ => 9 - (intOf t13).toNat)
  case atStart => exact ⟨0, code, fin, an, k1, s0, [], by omega, rfl, rfl, rfl, HST, hs, h7, x7⟩
  case round =>
    clear h7 x7 HST
    obtain ⟨i, code, fin, an, k, s, l, hi, rfl, rfl, rfl, HST, hsk, hr, hx⟩ := hrel
    have HSt := HST.out
    clear HST
    obtain ⟨y0, y1, y2⟩ := hr.cells3
    obtain ⟨g0, g1, g2⟩ := hr.frees3
    have yl := hr.lt
    cases HSt with
    | run he hf ha hl hs' hw =>
      have hfew := hw.few
      have HP := Lib.hid (fun R w h => stepPC b f [] 0 k s0 Tl.Ok.nil hs hw.ok R w h)
      have hstp := hw.step
      have hca := hw.ok.acc hw.on
      rw [hw.acc] at hca
      have HCA := Lib.hid hca
      have HOKS := Lib.hid (stepC_ok hs 0 k)
      have HBAD := Lib.hid (stepC_bad (s := s0) (root := 0) (c := k))
      generalize stepC s0 0 k = p at *
      obtain ⟨k', s', r, code'⟩ := p
      subst he hf ha hl hs'
      dsimp only at HP HOKS HBAD
      have hi9 : (i : Int) < 9 := by omega
      clear hca hw
      have hr' : Has wr (pcAt b [] 0 k * (framesAt f s * (blk Y #[(Value.int .i64) 0, (Value.int .i64) 0, (Value.int .i64) 0] 49 * (blk X #[(Value.int .i64) a.page, (Value.int .i64) a.kind, Value.bool a.user] 29 * (memAt q s * old w X))))) := hr.eq (by unfold An.zero; ac_rfl)
      go_wp2_with fail
      refine (HP.out _ _ hr').mono ?_; rintro e2 w2 ⟨rfl, h2, x2⟩
      have h3 : Has w2 (blk Y #[(Value.int .i64) 0, (Value.int .i64) 0, (Value.int .i64) 0] 49 * (pcAt b (keepL [] r) 0 k' * (framesAt f s' * (blk X #[(Value.int .i64) a.page, (Value.int .i64) a.kind, Value.bool a.user] 29 * (memAt q s * old w X))))) := h2.eq (by ac_rfl)
      have x3 := hx.trans x2
      clear hr hr' h2 x2 hx y0 y1 y2 g0 g1 g2 yl HP
      obtain ⟨y0, y1, y2⟩ := h3.cells3
      obtain ⟨g0, g1, g2⟩ := h3.frees3
      have yl := h3.lt
      go_wp2_with fail
      go_roundw
      case rel =>
        refine ⟨i + 1, code', r.fin, r.an, k', s', keepL [] r, by omega, by go_num, rfl, rfl, ?_, HOKS.out, h3.set3 _ _ _, ((x3.set _ _).set _ _).set _ _⟩
        cases hstp with
        | bad hc hy hrr hss _ =>
          dsimp only at hc hrr
          subst hrr
          exact Lib.hid (.bad hc rfl rfl)
        | on hc hrr hss hwn =>
          dsimp only at hc hrr hss hwn
          subst hrr hss hc
          exact Lib.hid (.run rfl rfl rfl rfl rfl hwn)
        | done hc hy hrr hss hcnt hoff hok' =>
          dsimp only at hc hy hrr hss hoff hok'
          have hfin : r.fin = true := by
            rw [hrr]; unfold endR
            split
            · rfl
            · split <;> rfl
          exact Lib.hid (.done hc hfin hy (by rw [hrr]) (by rw [hrr]) hss hoff hok' HCA.out)
      case measure => simp [intOf]; omega
    | bad he hf hl =>
      have hn : (code != 0) = true := by simpa using he
      have hn2 : (code == 0) = false := by simpa using he
      clear he
      subst hf hl
      have hend := hr.right.right.right.right.right
      rw [← HX.out] at hend
      by_cases hi9 : (i : Int) < 9
      · go_wp2_with fail
        go_ret
        exact ⟨rfl, below_of1 hend hx⟩
      · go_wp2_with fail
        go_ret
        exact ⟨rfl, below_of1 hend hx⟩
    | done he hf hc ha hl hs' hon hk hca =>
      subst he hf
      go_upto_region 11 with fail
      go_cut [62] from 53 to 62 (fun s62 wx => s62 = Value.bool false ∧ wx = wr)
      case first =>
        by_cases hi9 : (i : Int) < 9
        · go_wp2_with fail
          go_meet
          case rel => exact ⟨rfl, rfl⟩
        · go_wp2_with fail
          go_meet
          case rel => exact ⟨rfl, rfl⟩
      case rest =>
      obtain ⟨rfl, hwr⟩ := hcut
      replace hwr := hwr.symm
      subst hwr
      by_cases han : an.fin = 0
      · have hf0 : (endR (way s0 0 a.page) a).an.fin = 0 := by rw [← ha]; exact han
        obtain ⟨m, d, hr1, hr2, hr3, hr4, hr5⟩ := endR_done hc hf0
        rw [keep_one hr1 hf0 hr2] at hl
        have han2 : an = answer m a := by rw [ha, hr1]
        have hsh : s.has 0 = true := by rw [hs', endS_has]; exact hs0
        have hok1 := kln_ok (d := d) hr2
        have hfd : lnOf (Tl.find l a.page) = .agg #[(Value.int .i64) m.page, (Value.int .i64) m.size, (Value.int .i64) m.frame, (Value.int .i64) m.rights, Value.bool d] ∧ (Tl.find l a.page).isSome = true := by
          rw [hl]
          unfold kln Tl.find
          rw [List.find?_cons_of_pos (by exact hr3)]
          exact ⟨rfl, rfl⟩
        subst hl
        have hmp : i64 m.page := (kln_ok (d := d) hr2).lok _ (List.mem_singleton.2 rfl)
        have HF := Lib.hid (fun t R w h => findT t (kln m d) a.page R w hok1.lok hac.1 h)
        rw [hfd.1, hfd.2] at HF
        have HB2 := Lib.hid (fun R w h => beginC b (kln m d) 0 k a hok1 hac.1 R w h)
        rw [kln_beg hon hca hr3 hr5, ← han2] at HB2
        have HH := Lib.hid (fun W => refHas_any m a.page W hmp hac.1)
        rw [hr3] at HH
        have HT := Lib.hid (fun R w h => toldC b (kln m d) 0 k ⟨a.page, 0, 0, 0⟩ hok1 hac.1 R w h)
        rw [kln_drop hr4, show k.again 0 = k by unfold Ck.again; rw [if_neg (by rw [hon]; simp)]] at HT
        have HB3 := Lib.hid (fun R w h => beginC b [] 0 k a Tl.Ok.nil hac.1 R w h)
        rw [nil_beg hon hca] at HB3
        have HS8 := Lib.hid (fun R w h => stepPC b f [] 0 (k.begin 0 a) (noughts s 8) Tl.Ok.nil (noughts_ok hsk 8) (Ck.Ok.begin 0 hca) R w h)
        rw [(noughts_step hsh hca).1, (noughts_step hsh hca).2, show keepL [] ⟨true, ⟨1, 0, 0⟩, ⟨Mp.zero, false⟩⟩ = [] from rfl] at HS8
        dsimp only [An.zero] at HB2 HT HB3 HS8
        have HST := Lib.hid (fun j R w h => storeF f (noughts s j) 0 (j : Int) 0 R w h)
        clear hf0 hc ha hs' hok1 hfd hr1 hr2 hr3 hr4 hr5 hca hon hk han2 hsh
        generalize kln m d = l1 at *
        generalize k.begin 0 a = kb at *
        generalize (stepC (noughts s 8) 0 kb).c = kz at *
        generalize (stepC (noughts s 8) 0 kb).s = sz at *
        generalize hN0 : noughts s = Z at *
        have HZ0 := Lib.hid (show Z 0 = s by rw [← hN0]; rfl)
        have HZ1 := Lib.hid (show ∀ j : Nat, storeS (Z j) 0 (j : Int) 0 = Z (j + 1) by intro j; rw [← hN0]; rfl)
        clear hN0
        obtain ⟨af, afr, ari⟩ := an
        dsimp only at *
        subst han
        obtain ⟨t, v, h3⟩ := pcAt_open hr.p2
        have h4 : Has wr (tlbAt t l1 * (blk b #[.pointer (some ⟨t, 0, none⟩), .pointer (some ⟨v, 0, none⟩)] 140 * (blk X #[(Value.int .i64) a.page, (Value.int .i64) a.kind, Value.bool a.user] 29 * (walkerAt v 0 k * (framesAt f s * (blk Y #[(Value.int .i64) 0, (Value.int .i64) afr, (Value.int .i64) ari] 49 * (memAt q s0 * old w X))))))) := h3.eq (by ac_rfl)
        have HK := Lib.hid (fun (w' : World) (P Q : HProp) (h : Has w' (P * (blk b #[.pointer (some ⟨t, 0, none⟩), .pointer (some ⟨v, 0, none⟩)] 140 * (blk X #[(Value.int .i64) a.page, (Value.int .i64) a.kind, Value.bool a.user] 29 * Q)))) => (⟨h.right.cell 0, h.right.right.cell 0⟩ : w'.cell? ⟨b, 0, none⟩ = some (.pointer (some ⟨t, 0, none⟩)) ∧ w'.cell? ⟨X, 0, none⟩ = some ((Value.int .i64) a.page)))
        obtain ⟨b0, p0⟩ := HK.out _ _ _ h4
        have bl := h4.right.lt
        have xl := h4.right.right.lt
        clear h3 hr g0 g1 g2
        go_upto_region 16 with fail
        go_cut [14, 15] from 97 to 107 (fun s14 s15 wx => ∃ V : Nat, s14 = .pointer (some ⟨V, 0, none⟩) ∧ s15 = Value.bool true ∧ Has wx (blk V #[(Value.int .i64) m.page, (Value.int .i64) m.size, (Value.int .i64) m.frame, (Value.int .i64) m.rights, Value.bool d] 51 * (tlbAt t l1 * (blk b #[.pointer (some ⟨t, 0, none⟩), .pointer (some ⟨v, 0, none⟩)] 140 * (blk X #[(Value.int .i64) a.page, (Value.int .i64) a.kind, Value.bool a.user] 29 * (walkerAt v 0 k * (framesAt f s * (blk Y #[(Value.int .i64) 0, (Value.int .i64) afr, (Value.int .i64) ari] 49 * (memAt q s0 * old w X)))))))) ∧ Ext w wx)
        case first =>
          have h5 := h4.drew
          have x5 := hx.drew
          have z5 : Has (wr.alloc (.cells #[(Value.int .i64) 0, (Value.int .i64) 0, (Value.int .i64) 0, (Value.int .i64) 0, Value.bool false] 51)).drew (tlbAt t l1 * (blk b #[.pointer (some ⟨t, 0, none⟩), .pointer (some ⟨v, 0, none⟩)] 140 * (blk X #[(Value.int .i64) a.page, (Value.int .i64) a.kind, Value.bool a.user] 29 * (blk wr.heap.size #[(Value.int .i64) 0, (Value.int .i64) 0, (Value.int .i64) 0, (Value.int .i64) 0, Value.bool false] 51 * (walkerAt v 0 k * (framesAt f s * (blk Y #[(Value.int .i64) 0, (Value.int .i64) afr, (Value.int .i64) ari] 49 * (memAt q s0 * old w X)))))))) := (h4.new #[(Value.int .i64) 0, (Value.int .i64) 0, (Value.int .i64) 0, (Value.int .i64) 0, Value.bool false] 51).drew.eq (by ac_rfl)
          have y5 := (hx.alloc (.cells #[(Value.int .i64) 0, (Value.int .i64) 0, (Value.int .i64) 0, (Value.int .i64) 0, Value.bool false] 51)).drew
          go_region_held3 (fun w' => w'.cell? ⟨b, 0, none⟩ = some (.pointer (some ⟨t, 0, none⟩)) ∧ w'.cell? ⟨X, 0, none⟩ = some ((Value.int .i64) a.page)) (first | (with_reducible exact HK.out _ _ _ h5) | (with_reducible exact HK.out _ _ _ z5) | (with_reducible exact HK.out _ _ _ hL) | (with_reducible exact HK.out _ _ _ (hL.alloc _)) | (with_reducible exact HK.out _ _ _ gL) | (with_reducible exact HK.out _ _ _ gL.right) | (with_reducible exact HK.out _ _ _ (gL.set5 _ _ _ _ _).right) | go_keep) (first | (go_at_call 78; first | ((with_reducible refine (HF.out _ _ _ h5).mono ?_); rintro e w5 ⟨rfl, b5⟩; have hL := h5.below b5; have xL := x5.below b5) | ((with_reducible refine (HF.out _ _ _ z5).mono ?_); rintro e w5 ⟨rfl, b5⟩; have gL : Has w5 (blk wr.heap.size #[(Value.int .i64) 0, (Value.int .i64) 0, (Value.int .i64) 0, (Value.int .i64) 0, Value.bool false] 51 * (tlbAt t l1 * (blk b #[.pointer (some ⟨t, 0, none⟩), .pointer (some ⟨v, 0, none⟩)] 140 * (blk X #[(Value.int .i64) a.page, (Value.int .i64) a.kind, Value.bool a.user] 29 * (walkerAt v 0 k * (framesAt f s * (blk Y #[(Value.int .i64) 0, (Value.int .i64) afr, (Value.int .i64) ari] 49 * (memAt q s0 * old w X)))))))) := (z5.below b5).eq (by ac_rfl); have yL := y5.below b5; obtain ⟨z0, z1, z2, z3, z4⟩ := gL.cells5; obtain ⟨y0, y1, y2, y3, y4⟩ := gL.frees5; have zl := gL.lt)))
          all_goals
            go_wp2_with fail
            go_meet
            case rel => first | exact ⟨_, rfl, rfl, hL.new #[(Value.int .i64) m.page, (Value.int .i64) m.size, (Value.int .i64) m.frame, (Value.int .i64) m.rights, Value.bool d] 51, xL.alloc _⟩ | exact ⟨_, rfl, rfl, gL.set5 _ _ _ _ _, ((((yL.set _ _).set _ _).set _ _).set _ _).set _ _⟩
        case rest =>
          clear h4 hx b0 p0 bl xl HF HK y0 y1 y2 yl
          obtain ⟨V, rfl, rfl, h6, x6⟩ := hcut
          have h7 : Has wc (framesAt f (Z 0) * (pcAt b l1 0 k * (blk V #[(Value.int .i64) m.page, (Value.int .i64) m.size, (Value.int .i64) m.frame, (Value.int .i64) m.rights, Value.bool d] 51 * (blk X #[(Value.int .i64) a.page, (Value.int .i64) a.kind, Value.bool a.user] 29 * (blk Y #[(Value.int .i64) 0, (Value.int .i64) afr, (Value.int .i64) ari] 49 * (memAt q s0 * old w X)))))) := by
            rw [HZ0.out]
            exact (pcAt_shut (h6.eq (show _ = blk b #[.pointer (some ⟨t, 0, none⟩), .pointer (some ⟨v, 0, none⟩)] 140 * (tlbAt t l1 * (walkerAt v 0 k * (framesAt f s * (blk V #[(Value.int .i64) m.page, (Value.int .i64) m.size, (Value.int .i64) m.frame, (Value.int .i64) m.rights, Value.bool d] 51 * (blk X #[(Value.int .i64) a.page, (Value.int .i64) a.kind, Value.bool a.user] 29 * (blk Y #[(Value.int .i64) 0, (Value.int .i64) afr, (Value.int .i64) ari] 49 * (memAt q s0 * old w X))))))) by ac_rfl))).eq (by ac_rfl)
          clear h6
          go_wp2_with fail
          go_loopw [16] (fun t16 wz => ∃ j : Nat, j ≤ 8 ∧ t16 = (Value.int .i64) j ∧ Has wz (framesAt f (Z j) * (pcAt b l1 0 k * (blk V #[(Value.int .i64) m.page, (Value.int .i64) m.size, (Value.int .i64) m.frame, (Value.int .i64) m.rights, Value.bool d] 51 * (blk X #[(Value.int .i64) a.page, (Value.int .i64) a.kind, Value.bool a.user] 29 * (blk Y #[(Value.int .i64) 0, (Value.int .i64) afr, (Value.int .i64) ari] 49 * (memAt q s0 * old w X)))))) ∧ Ext w wz) (fun t16 _ => 8 - (intOf t16).toNat)
          case atStart => exact ⟨0, by omega, rfl, h7, x6⟩
          case round =>
            clear h7 x6
            obtain ⟨j, hj, rfl, hz, xz⟩ := hrel
            by_cases hj8 : j < 8
            · have hst := Lib.hid (HST.out j)
              rw [HZ1.out] at hst
              generalize (Z j).hasW 0 (j : Int) = hw at *
              go_wp2_with fail
              refine (hst.out _ _ hz).mono ?_; rintro e w8 ⟨rfl, h8, x8⟩
              go_wp2_with fail
              go_roundw
              case rel => exact ⟨j + 1, by omega, by go_num, h8, xz.trans x8⟩
              case measure => simp [intOf]; omega
            · obtain rfl : j = 8 := by omega
              clear HST hj hj8
              have hX1 := hz.right.right.right.cells3
              obtain ⟨a0, a1, a2⟩ := hX1
              have al := hz.right.right.right.lt
              have h8 : Has _ (pcAt b l1 0 k * (blk V #[(Value.int .i64) m.page, (Value.int .i64) m.size, (Value.int .i64) m.frame, (Value.int .i64) m.rights, Value.bool d] 51 * (blk X #[(Value.int .i64) a.page, (Value.int .i64) a.kind, Value.bool a.user] 29 * (blk Y #[(Value.int .i64) 0, (Value.int .i64) afr, (Value.int .i64) ari] 49 * (framesAt f (Z 8) * (memAt q s0 * old w X)))))) := hz.eq (by ac_rfl)
              clear hz
              go_wp2_with fail
              refine (HB2.out _ _ h8).mono ?_; rintro e w9 ⟨rfl, h9, x9⟩
              have h10 : Has _ (blk w9.heap.size #[(Value.int .i64) 0, (Value.int .i64) afr, (Value.int .i64) ari] 49 * (blk V #[(Value.int .i64) m.page, (Value.int .i64) m.size, (Value.int .i64) m.frame, (Value.int .i64) m.rights, Value.bool d] 51 * (blk Y #[(Value.int .i64) 0, (Value.int .i64) afr, (Value.int .i64) ari] 49 * (blk X #[(Value.int .i64) a.page, (Value.int .i64) a.kind, Value.bool a.user] 29 * (pcAt b l1 0 k * (framesAt f (Z 8) * (memAt q s0 * old w X))))))) := (h9.new #[(Value.int .i64) 0, (Value.int .i64) afr, (Value.int .i64) ari] 49).eq (by ac_rfl)
              have x10 := (xz.trans x9).alloc (.cells #[(Value.int .i64) 0, (Value.int .i64) afr, (Value.int .i64) ari] 49)
              clear h8 h9 x9 xz HB2 a0 a1 a2 al
              go_upto_region 22 with fail
              generalize w9.alloc (.cells #[(Value.int .i64) 0, (Value.int .i64) afr, (Value.int .i64) ari] 49) = w10 at *
              generalize w9.heap.size = U at *
              obtain ⟨u0, u1, u2⟩ := h10.cells3
              have ul := h10.lt
              obtain ⟨v0, v1, v2, v3, v4⟩ := h10.right.cells5
              have vl := h10.right.lt
              obtain ⟨y0, y1, y2⟩ := h10.right.right.cells3
              have yl := h10.right.right.lt
              obtain ⟨a0, a1, a2⟩ := h10.right.right.right.cells3
              have al := h10.right.right.right.lt
              go_wp2_with fail
              refine (HH.out _).mono ?_; rintro e w11 ⟨rfl, b11⟩
              have h11 := h10.below b11
              have x11 := x10.below b11
              clear h10 x10 b11 HH u0 u1 u2 ul v0 v1 v2 v3 v4 vl y0 y1 y2 yl a0 a1 a2 al
              have h12 : Has w11 (pcAt b l1 0 k * (blk X #[(Value.int .i64) a.page, (Value.int .i64) a.kind, Value.bool a.user] 29 * (framesAt f (Z 8) * old w X))) := by
                have := h11.right.right.right.eq (show _ = memAt q s0 * (pcAt b l1 0 k * (blk X #[(Value.int .i64) a.page, (Value.int .i64) a.kind, Value.bool a.user] 29 * (framesAt f (Z 8) * old w X))) by ac_rfl)
                exact this.right
              obtain ⟨a0, a1, a2⟩ := h12.right.cells3
              have al := h12.right.lt
              go_wp2_with fail
              refine (HT.out _ _ h12).mono ?_; rintro e w13 ⟨rfl, h13, x13⟩
              clear a0 a1 a2 al
              obtain ⟨a0, a1, a2⟩ := h13.right.cells3
              have al := h13.right.lt
              go_wp2_with fail
              refine (HB3.out _ _ h13).mono ?_; rintro e w14 ⟨rfl, h14, x14⟩
              have h15 : Has w14 (pcAt b [] 0 kb * (framesAt f (Z 8) * (blk X #[(Value.int .i64) a.page, (Value.int .i64) a.kind, Value.bool a.user] 29 * old w X))) := h14.eq (by ac_rfl)
              have x15 := ((x11.trans x13).trans x14)
              clear a0 a1 a2 al h11 h12 h13 h14 x11 x13 x14
              go_wp2_with fail
              refine (HS8.out _ _ h15).mono ?_; rintro e w16 ⟨rfl, h16, x16⟩
              have h17 := h16.new #[(Value.int .i64) 1, (Value.int .i64) 0, (Value.int .i64) 0] 49
              have x17 := (x15.trans x16).alloc (.cells #[(Value.int .i64) 1, (Value.int .i64) 0, (Value.int .i64) 0] 49)
              obtain ⟨a0, a1, a2⟩ := h17.cells3
              have al := h17.lt
              have hend := h17.right.right.right.right
              rw [← HX.out] at hend
              go_wp2_with fail
              go_ret
              exact ⟨rfl, below_of1 hend x17⟩
      · have hl0 : l = [] := by
          rw [hl]
          unfold keepL
          rw [if_neg (fun h => han (by rw [ha]; exact h.2))]
        subst hl0
        clear hl ha hc hs' hon hk hca
        have hn : (an.fin != 0) = true := by simpa using han
        have HL := Lib.hid (fun t R w h => listT t [] R w (by simp) h)
        obtain ⟨t, v, h3⟩ := pcAt_open hr.p2
        obtain ⟨b0, _⟩ := h3.cells2
        have bl := h3.lt
        clear han
        go_wp2_with fail
        refine (HL.out t _ _ h3.p2).mono ?_; rintro e w8 ⟨A', n', c', rfl, h8, x8⟩
        obtain rfl := (lrow_len h8).symm
        have h9 := (h3.p2.onto h8).right
        have hend := h9.right.right.right.right.right.right.right
        go_wp2_with fail
        go_ret
        rw [← HX.out] at hend
        exact ⟨rfl, below_of1 hend (hx.trans x8)⟩
end Go.Proofs.Ytndhgomikpokpaa
