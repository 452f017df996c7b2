/- Contract of core.Begin. -/
import Derived.Test.YtmfheghbgihdmaaTblM5
import Derived.Test.YtmfheghbgihdmaaInsM2
import Derived.Test.YtmfheghbgihdmaaFrames2
import Derived.Test.YtmfheghbgihdmaaWalkM2
import Derived.Test.YtmfheghbgihdmaaTblM3
import Derived.Test.YtmfheghbgihdmaaEntry2
namespace Go.Proofs.Ytmfheghbgihdmaa
open Go.RowKit
set_option maxRecDepth 100000
/-- It is refused. -/
theorem beginC_bad (b : Nat) (l : List Ln) (root : Int) (k : Ck) (a : Ac) (ha : checkAccess a ≠ 0) (R : HProp) (W : World) (h : Has W (pcAt b l root k * R)) :
    Calls Try.prog 24 #[.pointer (some ⟨b, 0, none⟩), .agg #[(Value.int .i64) a.page, (Value.int .i64) a.kind, Value.bool a.user]] W (Res (.tuple #[.agg #[(Value.int .i64) 0, (Value.int .i64) 0, (Value.int .i64) 0], Value.bool false, (Value.int .i64) (checkAccess a)]) (pcAt b l root k * R) W) := by
  have hn : (checkAccess ⟨a.page, a.kind, a.user⟩ != 0) = true := by simpa using ha
  have h1 : Has _ (blk (W.heap.size + 1) #[(Value.int .i64) 0, (Value.int .i64) 0, (Value.int .i64) 0] 37 * (blk W.heap.size #[(Value.int .i64) a.page, (Value.int .i64) a.kind, Value.bool a.user] 33 * (pcAt b l root k * R))) := ((h.new #[(Value.int .i64) a.page, (Value.int .i64) a.kind, Value.bool a.user] 33).new #[(Value.int .i64) 0, (Value.int .i64) 0, (Value.int .i64) 0] 37).eq (by simp only [World.size_alloc])
  have x1 := ((Ext.refl W).alloc (.cells #[(Value.int .i64) a.page, (Value.int .i64) a.kind, Value.bool a.user] 33)).alloc (.cells #[(Value.int .i64) 0, (Value.int .i64) 0, (Value.int .i64) 0] 37)
  have HC := Lib.hid (fun X => checkAccess_any a.page a.kind a.user X)
  clear h
  go_enter Try.func24, Try.ntmps24
  go_upto_region 1 with fail
  generalize (W.alloc (.cells #[(Value.int .i64) a.page, (Value.int .i64) a.kind, Value.bool a.user] 33)).alloc (.cells #[(Value.int .i64) 0, (Value.int .i64) 0, (Value.int .i64) 0] 37) = W1 at *
  generalize W.heap.size + 1 = X1 at *
  generalize W.heap.size = X0 at *
  obtain ⟨a0, a1, a2⟩ := h1.right.cells3
  have al := h1.right.lt
  go_wp2_with fail
  refine (HC.out _).mono ?_; rintro e w2 ⟨rfl, b2⟩
  have h2 := h1.below b2
  have x2 := x1.below b2
  clear h1 x1 a0 a1 a2 al b2 HC
  rw [show checkAccess a = checkAccess ⟨a.page, a.kind, a.user⟩ from rfl]
  generalize checkAccess ⟨a.page, a.kind, a.user⟩ = ca at *
  obtain ⟨r0, r1, r2⟩ := h2.cells3
  obtain ⟨g0, g1, g2⟩ := h2.frees3
  have rl := h2.lt
  go_wp2_with fail
  refine ret_via (fun wz => Has wz (blk X1 #[(Value.int .i64) 0, (Value.int .i64) 0, (Value.int .i64) 0] 37 * (blk X0 #[(Value.int .i64) a.page, (Value.int .i64) a.kind, Value.bool a.user] 33 * (pcAt b l root k * R))) ∧ Ext W wz) ⟨h2.set3 _ _ _, by (repeat (first | with_reducible assumption | with_reducible exact Ext.refl _ | with_reducible refine Ext.set ?_ _ _ | with_reducible refine Ext.alloc ?_ _ | with_reducible refine Ext.drew ?_ | with_reducible refine Ext.drewN ?_ _ | assumption | exact Ext.refl _ | refine Ext.alloc ?_ _ | refine Ext.set ?_ _ _ | refine Ext.drew ?_ | refine Ext.drewN ?_ _ | refine Ext.below ?_ (by assumption) | refine Ext.trans ?_ (by assumption)))⟩ ?_
  rintro wz ⟨hz, xz⟩
  exact bodyPost_ret (results_ctt Try.results24 rfl rfl rfl (load_answer hz)) rfl ⟨rfl, hz.right.right, xz⟩
/-- It is on its way already. -/
theorem beginC_busy (b : Nat) (l : List Ln) (root : Int) (k : Ck) (a : Ac) (ha : checkAccess a = 0) (hon : k.on = true) (R : HProp) (W : World) (h : Has W (pcAt b l root k * R)) :
    Calls Try.prog 24 #[.pointer (some ⟨b, 0, none⟩), .agg #[(Value.int .i64) a.page, (Value.int .i64) a.kind, Value.bool a.user]] W (Res (.tuple #[.agg #[(Value.int .i64) 0, (Value.int .i64) 0, (Value.int .i64) 0], Value.bool false, (Value.int .i64) 8]) (pcAt b l root k * R) W) := by
  have HO := Lib.hid (fun R X h => busyC b l root k R X h)
  rw [hon] at HO
  have ha' : checkAccess ⟨a.page, a.kind, a.user⟩ = 0 := ha
  clear ha
  have h1 : Has _ (blk (W.heap.size + 1) #[(Value.int .i64) 0, (Value.int .i64) 0, (Value.int .i64) 0] 37 * (blk W.heap.size #[(Value.int .i64) a.page, (Value.int .i64) a.kind, Value.bool a.user] 33 * (pcAt b l root k * R))) := ((h.new #[(Value.int .i64) a.page, (Value.int .i64) a.kind, Value.bool a.user] 33).new #[(Value.int .i64) 0, (Value.int .i64) 0, (Value.int .i64) 0] 37).eq (by simp only [World.size_alloc])
  have x1 := ((Ext.refl W).alloc (.cells #[(Value.int .i64) a.page, (Value.int .i64) a.kind, Value.bool a.user] 33)).alloc (.cells #[(Value.int .i64) 0, (Value.int .i64) 0, (Value.int .i64) 0] 37)
  have HC := Lib.hid (fun X => checkAccess_any a.page a.kind a.user X)
  clear h
  go_enter Try.func24, Try.ntmps24
  go_upto_region 1 with fail
  generalize (W.alloc (.cells #[(Value.int .i64) a.page, (Value.int .i64) a.kind, Value.bool a.user] 33)).alloc (.cells #[(Value.int .i64) 0, (Value.int .i64) 0, (Value.int .i64) 0] 37) = W1 at *
  generalize W.heap.size + 1 = X1 at *
  generalize W.heap.size = X0 at *
  obtain ⟨a0, a1, a2⟩ := h1.right.cells3
  have al := h1.right.lt
  go_wp2_with fail
  refine (HC.out _).mono ?_; rintro e w2 ⟨rfl, b2⟩
  have h2 := h1.below b2
  have x2 := x1.below b2
  clear h1 x1 a0 a1 a2 al b2 HC
  rw [ha']
  go_wp2_with fail
  refine (HO.out _ _ h2.right.right).mono ?_; rintro e w3 ⟨rfl, rfl⟩
  obtain ⟨r0, r1, r2⟩ := h2.cells3
  obtain ⟨g0, g1, g2⟩ := h2.frees3
  have rl := h2.lt
  go_wp2_with fail
  refine ret_via (fun wz => Has wz (blk X1 #[(Value.int .i64) 0, (Value.int .i64) 0, (Value.int .i64) 0] 37 * (blk X0 #[(Value.int .i64) a.page, (Value.int .i64) a.kind, Value.bool a.user] 33 * (pcAt b l root k * R))) ∧ Ext W wz) ⟨h2.set3 _ _ _, by (repeat (first | with_reducible assumption | with_reducible exact Ext.refl _ | with_reducible refine Ext.set ?_ _ _ | with_reducible refine Ext.alloc ?_ _ | with_reducible refine Ext.drew ?_ | with_reducible refine Ext.drewN ?_ _ | assumption | exact Ext.refl _ | refine Ext.alloc ?_ _ | refine Ext.set ?_ _ _ | refine Ext.drew ?_ | refine Ext.drewN ?_ _ | refine Ext.below ?_ (by assumption) | refine Ext.trans ?_ (by assumption)))⟩ ?_
  rintro wz ⟨hz, xz⟩
  exact bodyPost_ret (results_ctt Try.results24 rfl rfl rfl (load_answer hz)) rfl ⟨rfl, hz.right.right, xz⟩
def Ln.zero : Ln := ⟨Mp.zero, false⟩
/-- Does it use what is kept? -/
def useL (x : Ln) (a : Ac) : Bool := x.dirty || (a.kind != 1 || !may x.m.rights a)
set_option maxHeartbeats 4000000 in
theorem beginC_free (b : Nat) (l : List Ln) (root : Int) (k : Ck) (a : Ac) (ha : checkAccess a = 0) (hon : k.on = false) (hl : Tl.Ok l) (hp : i64 a.page) (x : Ln) (ok hit : Bool) (an : An) (q : Bq)
    (hx : Hid (lnOf (Tl.find l a.page) = x.val ∧ (Tl.find l a.page).isSome = ok)) (hh : Hid (hit = (ok && useL x a))) (hAn : Hid (answer x.m a = an)) (hq : Hid (q = if hit = true then ⟨an, true, 0, k⟩ else ⟨An.zero, false, 0, k.begin root a⟩)) (R : HProp) (W : World) (h : Has W (pcAt b l root k * R)) :
    Calls Try.prog 24 #[.pointer (some ⟨b, 0, none⟩), .agg #[(Value.int .i64) a.page, (Value.int .i64) a.kind, Value.bool a.user]] W (Res (.tuple #[.agg #[(Value.int .i64) q.an.fin, (Value.int .i64) q.an.frame, (Value.int .i64) q.an.rights], Value.bool q.fin, (Value.int .i64) q.code]) (pcAt b l root q.c * R) W) := by
  have HO := Lib.hid (fun R X h => busyC b l root k R X h)
  rw [hon] at HO
  have ha' : checkAccess ⟨a.page, a.kind, a.user⟩ = 0 := ha
  have HF := Lib.hid (fun t R X h => findT t l a.page R X hl.lok hp h)
  rw [hx.out.1, hx.out.2] at HF
  have HB := Lib.hid (fun v R X h => beginW v root k a R X h)
  have hbc : begC k a = 0 := by unfold begC; rw [if_neg (by rw [ha]; simp), if_neg (by rw [hon]; simp)]
  have hbs : begS k root a = k.begin root a := by unfold begS; rw [if_pos hbc]
  rw [hbc, hbs] at HB
  have HM := Lib.hid (fun X => may_any x.m.rights a.page a.kind a.user X)
  have HA := Lib.hid (fun X => answer_any x.m a.page a.kind a.user X)
  rw [show answer x.m ⟨a.page, a.kind, a.user⟩ = an from hAn.out] at HA
  clear ha hon hl hp hx hbc hbs hAn
  have h1 : Has _ (blk (W.heap.size + 1) #[(Value.int .i64) 0, (Value.int .i64) 0, (Value.int .i64) 0] 37 * (blk W.heap.size #[(Value.int .i64) a.page, (Value.int .i64) a.kind, Value.bool a.user] 33 * (pcAt b l root k * R))) := ((h.new #[(Value.int .i64) a.page, (Value.int .i64) a.kind, Value.bool a.user] 33).new #[(Value.int .i64) 0, (Value.int .i64) 0, (Value.int .i64) 0] 37).eq (by simp only [World.size_alloc])
  have x1 := ((Ext.refl W).alloc (.cells #[(Value.int .i64) a.page, (Value.int .i64) a.kind, Value.bool a.user] 33)).alloc (.cells #[(Value.int .i64) 0, (Value.int .i64) 0, (Value.int .i64) 0] 37)
  have HC := Lib.hid (fun X => checkAccess_any a.page a.kind a.user X)
  clear h
  go_enter Try.func24, Try.ntmps24
  go_upto_region 1 with fail
  generalize (W.alloc (.cells #[(Value.int .i64) a.page, (Value.int .i64) a.kind, Value.bool a.user] 33)).alloc (.cells #[(Value.int .i64) 0, (Value.int .i64) 0, (Value.int .i64) 0] 37) = W1 at *
  generalize W.heap.size + 1 = X1 at *
  generalize W.heap.size = X0 at *
  obtain ⟨a0, a1, a2⟩ := h1.right.cells3
  have al := h1.right.lt
  go_wp2_with fail
  refine (HC.out _).mono ?_; rintro e w2 ⟨rfl, b2⟩
  have h2 := h1.below b2
  have x2 := x1.below b2
  clear h1 x1 a0 a1 a2 al b2 HC
  rw [ha']
  go_wp2_with fail
  refine (HO.out _ _ h2.right.right).mono ?_; rintro e w3 ⟨rfl, rfl⟩
  obtain ⟨t, v, h3⟩ := pcAt_open (h2.eq (show _ = pcAt b l root k * (blk X1 #[(Value.int .i64) 0, (Value.int .i64) 0, (Value.int .i64) 0] 37 * (blk X0 #[(Value.int .i64) a.page, (Value.int .i64) a.kind, Value.bool a.user] 33 * R)) by ac_rfl))
  have h4 : Has _ (tlbAt t l * (blk b #[.pointer (some ⟨t, 0, none⟩), .pointer (some ⟨v, 0, none⟩)] 74 * (blk X0 #[(Value.int .i64) a.page, (Value.int .i64) a.kind, Value.bool a.user] 33 * (blk X1 #[(Value.int .i64) 0, (Value.int .i64) 0, (Value.int .i64) 0] 37 * (walkerAt v root k * R))))) := h3.eq (by ac_rfl)
  have x4 := x2
  clear HO ha' h2 h3 x2
  obtain ⟨c0, c1⟩ := h4.right.cells2
  have cl := h4.right.lt
  obtain ⟨a0, a1, a2⟩ := h4.right.right.cells3
  have al := h4.right.right.lt
  have HK := Lib.hid (fun (w' : World) (P Q : HProp) (h : Has w' (P * (blk b #[.pointer (some ⟨t, 0, none⟩), .pointer (some ⟨v, 0, none⟩)] 74 * (blk X0 #[(Value.int .i64) a.page, (Value.int .i64) a.kind, Value.bool a.user] 33 * Q)))) => (by
    obtain ⟨b0, _⟩ := h.right.cells2
    obtain ⟨m0, _⟩ := h.right.right.cells3
    exact ⟨b0, m0⟩ : w'.cell? ⟨b, 0, none⟩ = some (.pointer (some ⟨t, 0, none⟩)) ∧ w'.cell? ⟨X0, 0, none⟩ = some ((Value.int .i64) a.page)))
  go_upto_region 6 with fail
  go_cut [8, 9] from 19 to 29 (fun s8 s9 wx => ∃ V : Nat, s8 = .pointer (some ⟨V, 0, none⟩) ∧ s9 = Value.bool ok ∧ Has wx (blk V #[(Value.int .i64) x.m.page, (Value.int .i64) x.m.size, (Value.int .i64) x.m.frame, (Value.int .i64) x.m.rights, Value.bool x.dirty] 100 * (tlbAt t l * (blk b #[.pointer (some ⟨t, 0, none⟩), .pointer (some ⟨v, 0, none⟩)] 74 * (blk X0 #[(Value.int .i64) a.page, (Value.int .i64) a.kind, Value.bool a.user] 33 * (blk X1 #[(Value.int .i64) 0, (Value.int .i64) 0, (Value.int .i64) 0] 37 * (walkerAt v root k * R)))))) ∧ Ext W wx)
  case first =>
    have h5 := h4.drew
    have x5 := x4.drew
    have z5 : Has (w2.alloc (.cells #[(Value.int .i64) 0, (Value.int .i64) 0, (Value.int .i64) 0, (Value.int .i64) 0, Value.bool false] 100)).drew (tlbAt t l * (blk b #[.pointer (some ⟨t, 0, none⟩), .pointer (some ⟨v, 0, none⟩)] 74 * (blk X0 #[(Value.int .i64) a.page, (Value.int .i64) a.kind, Value.bool a.user] 33 * (blk w2.heap.size #[(Value.int .i64) 0, (Value.int .i64) 0, (Value.int .i64) 0, (Value.int .i64) 0, Value.bool false] 100 * (blk X1 #[(Value.int .i64) 0, (Value.int .i64) 0, (Value.int .i64) 0] 37 * (walkerAt v root k * R)))))) := (h4.new #[(Value.int .i64) 0, (Value.int .i64) 0, (Value.int .i64) 0, (Value.int .i64) 0, Value.bool false] 100).drew.eq (by ac_rfl)
    have y5 := (x4.alloc (.cells #[(Value.int .i64) 0, (Value.int .i64) 0, (Value.int .i64) 0, (Value.int .i64) 0, Value.bool false] 100)).drew
    go_region_held3 (fun w' => w'.cell? ⟨b, 0, none⟩ = some (.pointer (some ⟨t, 0, none⟩)) ∧ w'.cell? ⟨X0, 0, none⟩ = some ((Value.int .i64) a.page)) (first | (with_reducible exact HK.out _ _ _ h5) | (with_reducible exact HK.out _ _ _ z5) | (with_reducible exact HK.out _ _ _ hL) | (with_reducible exact HK.out _ _ _ (hL.alloc _)) | (with_reducible exact HK.out _ _ _ gL) | (with_reducible exact HK.out _ _ _ gL.right) | (with_reducible exact HK.out _ _ _ (gL.set5 _ _ _ _ _).right) | go_keep) (first | (go_at_call 41; first | ((with_reducible refine (HF.out _ _ _ h5).mono ?_); rintro e w5 ⟨rfl, b5⟩; have hL := h5.below b5; have xL := x5.below b5) | ((with_reducible refine (HF.out _ _ _ z5).mono ?_); rintro e w5 ⟨rfl, b5⟩; have gL : Has w5 (blk w2.heap.size #[(Value.int .i64) 0, (Value.int .i64) 0, (Value.int .i64) 0, (Value.int .i64) 0, Value.bool false] 100 * (tlbAt t l * (blk b #[.pointer (some ⟨t, 0, none⟩), .pointer (some ⟨v, 0, none⟩)] 74 * (blk X0 #[(Value.int .i64) a.page, (Value.int .i64) a.kind, Value.bool a.user] 33 * (blk X1 #[(Value.int .i64) 0, (Value.int .i64) 0, (Value.int .i64) 0] 37 * (walkerAt v root k * R)))))) := (z5.below b5).eq (by ac_rfl); have yL := y5.below b5; obtain ⟨z0, z1, z2, z3, z4⟩ := gL.cells5; obtain ⟨y0, y1, y2, y3, y4⟩ := gL.frees5; have zl := gL.lt)))
    all_goals
      go_wp2_with fail
      go_meet
      case rel => first | exact ⟨_, rfl, rfl, hL.new #[(Value.int .i64) x.m.page, (Value.int .i64) x.m.size, (Value.int .i64) x.m.frame, (Value.int .i64) x.m.rights, Value.bool x.dirty] 100, xL.alloc _⟩ | exact ⟨_, rfl, rfl, gL.set5 _ _ _ _ _, ((((yL.set _ _).set _ _).set _ _).set _ _).set _ _⟩
  case rest =>
    clear h4 x4 c0 c1 cl a0 a1 a2 al HK HF
    obtain ⟨V, rfl, rfl, h5, x5⟩ := hcut
    obtain ⟨v0, v1, v2, v3, v4⟩ := h5.cells5
    have vl := h5.lt
    obtain ⟨c0, c1⟩ := h5.right.right.cells2
    have cl := h5.right.right.lt
    obtain ⟨a0, a1, a2⟩ := h5.right.right.right.cells3
    have al := h5.right.right.right.lt
    go_upto_region 7 with fail
    go_cut [46] from 29 to 46 (fun s46 wx => s46 = Value.bool hit ∧ Has wx (blk V #[(Value.int .i64) x.m.page, (Value.int .i64) x.m.size, (Value.int .i64) x.m.frame, (Value.int .i64) x.m.rights, Value.bool x.dirty] 100 * (tlbAt t l * (blk b #[.pointer (some ⟨t, 0, none⟩), .pointer (some ⟨v, 0, none⟩)] 74 * (blk X0 #[(Value.int .i64) a.page, (Value.int .i64) a.kind, Value.bool a.user] 33 * (blk X1 #[(Value.int .i64) 0, (Value.int .i64) 0, (Value.int .i64) 0] 37 * (walkerAt v root k * R)))))) ∧ Ext W wx)
    case first =>
      replace hh := hh.out
      unfold useL at hh
      cases ok with
      | false =>
        replace hh : hit = false := hh
        subst hh
        go_wp2_with fail
        go_meet
        case rel => exact ⟨rfl, h5, x5⟩
      | true =>
        cases hd : x.dirty with
        | true =>
          rw [hd] at hh v4
          clear hd
          replace hh : hit = true := hh
          subst hh
          go_wp2_with fail
          go_meet
          case rel => exact ⟨rfl, h5, x5⟩
        | false =>
          rw [hd] at hh v4
          clear hd
          by_cases hk : a.kind = 1
          · have hk1 : (a.kind != 1) = false := by simpa using hk
            rw [hk1] at hh
            replace hh : hit = !may x.m.rights ⟨a.page, a.kind, a.user⟩ := hh
            generalize may x.m.rights ⟨a.page, a.kind, a.user⟩ = my at *
            subst hh
            clear hk
            go_wp2_with fail
            refine (HM.out _).mono ?_; rintro e w7 ⟨rfl, b7⟩
            have h7 := h5.below b7
            have x7 := x5.below b7
            cases my
            all_goals
              go_wp2_with fail
              go_meet
              case rel => exact ⟨rfl, h7, x7⟩
          · have hk1 : (a.kind != 1) = true := by simpa using hk
            rw [hk1] at hh
            replace hh : hit = true := hh
            subst hh
            clear hk
            go_wp2_with fail
            go_meet
            case rel => exact ⟨rfl, h5, x5⟩
    case rest =>
      clear h5 x5 v0 v1 v2 v3 v4 vl c0 c1 cl a0 a1 a2 al hh HM
      obtain ⟨rfl, h5, x5⟩ := hcut
      obtain ⟨v0, v1, v2, v3, v4⟩ := h5.cells5
      have vl := h5.lt
      obtain ⟨c0, c1⟩ := h5.right.right.cells2
      have cl := h5.right.right.lt
      obtain ⟨a0, a1, a2⟩ := h5.right.right.right.cells3
      have al := h5.right.right.right.lt
      have hq := hq.out
      cases hit with
      | true =>
        rw [if_pos rfl] at hq
        subst hq
        try dsimp only
        go_wp2_with fail
        refine (HA.out _).mono ?_; rintro e w7 ⟨rfl, b7⟩
        have h7 : Has w7 (blk X1 #[(Value.int .i64) 0, (Value.int .i64) 0, (Value.int .i64) 0] 37 * (blk V #[(Value.int .i64) x.m.page, (Value.int .i64) x.m.size, (Value.int .i64) x.m.frame, (Value.int .i64) x.m.rights, Value.bool x.dirty] 100 * (tlbAt t l * (blk b #[.pointer (some ⟨t, 0, none⟩), .pointer (some ⟨v, 0, none⟩)] 74 * (blk X0 #[(Value.int .i64) a.page, (Value.int .i64) a.kind, Value.bool a.user] 33 * (walkerAt v root k * R)))))) := (h5.below b7).eq (by ac_rfl)
        have x7 := x5.below b7
        obtain ⟨r0, r1, r2⟩ := h7.cells3
        obtain ⟨g0, g1, g2⟩ := h7.frees3
        have rl := h7.lt
        go_wp2_with fail
        refine ret_via (fun wz => Has wz (blk X1 #[(Value.int .i64) an.fin, (Value.int .i64) an.frame, (Value.int .i64) an.rights] 37 * (blk V #[(Value.int .i64) x.m.page, (Value.int .i64) x.m.size, (Value.int .i64) x.m.frame, (Value.int .i64) x.m.rights, Value.bool x.dirty] 100 * (tlbAt t l * (blk b #[.pointer (some ⟨t, 0, none⟩), .pointer (some ⟨v, 0, none⟩)] 74 * (blk X0 #[(Value.int .i64) a.page, (Value.int .i64) a.kind, Value.bool a.user] 33 * (walkerAt v root k * R)))))) ∧ Ext W wz) ⟨h7.set3 _ _ _, by (repeat (first | with_reducible assumption | with_reducible exact Ext.refl _ | with_reducible refine Ext.set ?_ _ _ | with_reducible refine Ext.alloc ?_ _ | with_reducible refine Ext.drew ?_ | with_reducible refine Ext.drewN ?_ _ | assumption | exact Ext.refl _ | refine Ext.alloc ?_ _ | refine Ext.set ?_ _ _ | refine Ext.drew ?_ | refine Ext.drewN ?_ _ | refine Ext.below ?_ (by assumption) | refine Ext.trans ?_ (by assumption)))⟩ ?_
        rintro wz ⟨hz, xz⟩
        exact bodyPost_ret (results_ctt Try.results24 rfl rfl rfl (load_answer hz)) rfl ⟨rfl, (pcAt_shut (hz.right.right.eq (show _ = blk b #[.pointer (some ⟨t, 0, none⟩), .pointer (some ⟨v, 0, none⟩)] 74 * (tlbAt t l * (walkerAt v root k * (blk X0 #[(Value.int .i64) a.page, (Value.int .i64) a.kind, Value.bool a.user] 33 * R))) by ac_rfl))).p2.right, xz⟩
      | false =>
        rw [if_neg (by simp)] at hq
        subst hq
        try dsimp only [An.zero]
        have h6 : Has wc.drew (walkerAt v root k * (blk b #[.pointer (some ⟨t, 0, none⟩), .pointer (some ⟨v, 0, none⟩)] 74 * (blk X0 #[(Value.int .i64) a.page, (Value.int .i64) a.kind, Value.bool a.user] 33 * (blk X1 #[(Value.int .i64) 0, (Value.int .i64) 0, (Value.int .i64) 0] 37 * (blk V #[(Value.int .i64) x.m.page, (Value.int .i64) x.m.size, (Value.int .i64) x.m.frame, (Value.int .i64) x.m.rights, Value.bool x.dirty] 100 * (tlbAt t l * R)))))) := h5.drew.eq (by ac_rfl)
        have x6 := x5.drew
        have h6x : Has wc (blk X1 #[(Value.int .i64) 0, (Value.int .i64) 0, (Value.int .i64) 0] 37 * (walkerAt v root k * (blk b #[.pointer (some ⟨t, 0, none⟩), .pointer (some ⟨v, 0, none⟩)] 74 * (blk X0 #[(Value.int .i64) a.page, (Value.int .i64) a.kind, Value.bool a.user] 33 * (blk V #[(Value.int .i64) x.m.page, (Value.int .i64) x.m.size, (Value.int .i64) x.m.frame, (Value.int .i64) x.m.rights, Value.bool x.dirty] 100 * (tlbAt t l * R)))))) := h5.eq (by ac_rfl)
        obtain ⟨r0, r1, r2⟩ := h6x.cells3
        obtain ⟨g0, g1, g2⟩ := h6x.frees3
        have rl := h6x.lt
        have h6s := h6x.set3 ((Value.int .i64) 0) ((Value.int .i64) 0) ((Value.int .i64) 0)
        have h6d : Has _ (walkerAt v root k * (blk b #[.pointer (some ⟨t, 0, none⟩), .pointer (some ⟨v, 0, none⟩)] 74 * (blk X0 #[(Value.int .i64) a.page, (Value.int .i64) a.kind, Value.bool a.user] 33 * (blk X1 #[(Value.int .i64) 0, (Value.int .i64) 0, (Value.int .i64) 0] 37 * (blk V #[(Value.int .i64) x.m.page, (Value.int .i64) x.m.size, (Value.int .i64) x.m.frame, (Value.int .i64) x.m.rights, Value.bool x.dirty] 100 * (tlbAt t l * R)))))) := h6s.drew.eq (by ac_rfl)
        have x6d := (((x5.set ⟨X1, 0, none⟩ ((Value.int .i64) 0)).set ⟨X1, 1, none⟩ ((Value.int .i64) 0)).set ⟨X1, 2, none⟩ ((Value.int .i64) 0)).drew
        have HK := Lib.hid (fun (w' : World) (P Q : HProp) (h : Has w' (P * (blk b #[.pointer (some ⟨t, 0, none⟩), .pointer (some ⟨v, 0, none⟩)] 74 * (blk X0 #[(Value.int .i64) a.page, (Value.int .i64) a.kind, Value.bool a.user] 33 * Q)))) => (by
          obtain ⟨_, b0⟩ := h.right.cells2
          obtain ⟨m0, m1, m2⟩ := h.right.right.cells3
          exact ⟨b0, m0, m1, m2⟩ : w'.cell? ⟨b, 1, none⟩ = some (.pointer (some ⟨v, 0, none⟩)) ∧ w'.cell? ⟨X0, 0, none⟩ = some ((Value.int .i64) a.page) ∧ w'.cell? ⟨X0, 1, none⟩ = some ((Value.int .i64) a.kind) ∧ w'.cell? ⟨X0, 2, none⟩ = some (Value.bool a.user)))
        have HKS := Lib.hid (fun (w' : World) (P Q S : HProp) (h : Has w' (P * (Q * (S * (blk X1 #[(Value.int .i64) 0, (Value.int .i64) 0, (Value.int .i64) 0] 37 * (blk V #[(Value.int .i64) x.m.page, (Value.int .i64) x.m.size, (Value.int .i64) x.m.frame, (Value.int .i64) x.m.rights, Value.bool x.dirty] 100 * (tlbAt t l * R))))))) => (by
          have h7 : Has w' (blk X1 #[(Value.int .i64) 0, (Value.int .i64) 0, (Value.int .i64) 0] 37 * (P * (Q * (S * (blk V #[(Value.int .i64) x.m.page, (Value.int .i64) x.m.size, (Value.int .i64) x.m.frame, (Value.int .i64) x.m.rights, Value.bool x.dirty] 100 * (tlbAt t l * R)))))) := h.eq (by ac_rfl)
          exact (h7.set3 ((Value.int .i64) 0) ((Value.int .i64) 0) ((Value.int .i64) 0)).eq (by ac_rfl) : Has (((w'.setCell ⟨X1, 0, none⟩ ((Value.int .i64) 0)).setCell ⟨X1, 1, none⟩ ((Value.int .i64) 0)).setCell ⟨X1, 2, none⟩ ((Value.int .i64) 0)) (P * (Q * (S * (blk X1 #[(Value.int .i64) 0, (Value.int .i64) 0, (Value.int .i64) 0] 37 * (blk V #[(Value.int .i64) x.m.page, (Value.int .i64) x.m.size, (Value.int .i64) x.m.frame, (Value.int .i64) x.m.rights, Value.bool x.dirty] 100 * (tlbAt t l * R))))))))
        clear h5 x5 HA
        go_upto_region 9 with fail
        go_region_held3 (fun w' => w'.cell? ⟨b, 1, none⟩ = some (.pointer (some ⟨v, 0, none⟩)) ∧ w'.cell? ⟨X0, 0, none⟩ = some ((Value.int .i64) a.page) ∧ w'.cell? ⟨X0, 1, none⟩ = some ((Value.int .i64) a.kind) ∧ w'.cell? ⟨X0, 2, none⟩ = some (Value.bool a.user)) (first | (with_reducible exact HK.out _ _ _ h6) | (with_reducible exact HK.out _ _ _ h6d) | (with_reducible exact HK.out _ _ _ hL) | (with_reducible exact HK.out _ _ _ sL) | go_keep) (first | (go_at_call 44; first | ((with_reducible refine (HB.out _ _ _ h6).mono ?_); rintro e w7 ⟨rfl, hL, xL⟩; obtain ⟨s0, s1, s2⟩ := hL.right.right.right.cells3; obtain ⟨t0, t1, t2⟩ := hL.right.right.right.frees3; have sl := hL.right.right.right.lt; have sL := HKS.out _ _ _ _ hL) | ((with_reducible refine (HB.out _ _ _ h6d).mono ?_); rintro e w7 ⟨rfl, hL, xL⟩; obtain ⟨s0, s1, s2⟩ := hL.right.right.right.cells3; obtain ⟨t0, t1, t2⟩ := hL.right.right.right.frees3; have sl := hL.right.right.right.lt; have sL := HKS.out _ _ _ _ hL)))
        all_goals
          go_wp2_with fail
          refine ret_via (fun wz => Has wz (blk X1 #[(Value.int .i64) 0, (Value.int .i64) 0, (Value.int .i64) 0] 37 * (walkerAt v root (k.begin root a) * (blk b #[.pointer (some ⟨t, 0, none⟩), .pointer (some ⟨v, 0, none⟩)] 74 * (blk X0 #[(Value.int .i64) a.page, (Value.int .i64) a.kind, Value.bool a.user] 33 * (blk V #[(Value.int .i64) x.m.page, (Value.int .i64) x.m.size, (Value.int .i64) x.m.frame, (Value.int .i64) x.m.rights, Value.bool x.dirty] 100 * (tlbAt t l * R)))))) ∧ Ext W wz) ⟨by first | exact sL.eq (by ac_rfl) | exact hL.eq (by ac_rfl), by (repeat (first | with_reducible assumption | with_reducible exact Ext.refl _ | with_reducible refine Ext.set ?_ _ _ | with_reducible refine Ext.alloc ?_ _ | with_reducible refine Ext.drew ?_ | with_reducible refine Ext.drewN ?_ _ | assumption | exact Ext.refl _ | refine Ext.alloc ?_ _ | refine Ext.set ?_ _ _ | refine Ext.drew ?_ | refine Ext.drewN ?_ _ | refine Ext.below ?_ (by assumption) | refine Ext.trans ?_ (by assumption)))⟩ ?_
          rintro wz ⟨hz, xz⟩
          exact bodyPost_ret (results_ctt Try.results24 rfl rfl rfl (load_answer hz)) rfl ⟨rfl, (pcAt_shut (hz.right.eq (show _ = blk b #[.pointer (some ⟨t, 0, none⟩), .pointer (some ⟨v, 0, none⟩)] 74 * (tlbAt t l * (walkerAt v root (k.begin root a) * (blk X0 #[(Value.int .i64) a.page, (Value.int .i64) a.kind, Value.bool a.user] 33 * (blk V #[(Value.int .i64) x.m.page, (Value.int .i64) x.m.size, (Value.int .i64) x.m.frame, (Value.int .i64) x.m.rights, Value.bool x.dirty] 100 * R)))) by ac_rfl))).p2.right.p2.right, xz⟩
theorem beginC (b : Nat) (l : List Ln) (root : Int) (k : Ck) (a : Ac) (hl : Tl.Ok l) (hp : i64 a.page) (R : HProp) (W : World) (h : Has W (pcAt b l root k * R)) :
    Calls Try.prog 24 #[.pointer (some ⟨b, 0, none⟩), .agg #[(Value.int .i64) a.page, (Value.int .i64) a.kind, Value.bool a.user]] W
      (Res (.tuple #[.agg #[(Value.int .i64) (coreB l root k a).an.fin, (Value.int .i64) (coreB l root k a).an.frame, (Value.int .i64) (coreB l root k a).an.rights], Value.bool (coreB l root k a).fin, (Value.int .i64) (coreB l root k a).code]) (pcAt b l root (coreB l root k a).c * R) W) := by
  by_cases ha : checkAccess a = 0
  · cases hon : k.on with
    | true =>
      have e : coreB l root k a = ⟨An.zero, false, 8, k⟩ := by unfold coreB; rw [if_neg (by rw [ha]; simp), if_pos hon]
      rw [e]
      exact beginC_busy b l root k a ha hon R W h
    | false =>
      have e : coreB l root k a = match hitA l a with | some r => ⟨r, true, 0, k⟩ | none => ⟨An.zero, false, 0, k.begin root a⟩ := by unfold coreB; rw [if_neg (by rw [ha]; simp), if_neg (by rw [hon]; simp)]; rfl
      cases hf : Tl.find l a.page with
      | none =>
        have e2 : hitA l a = none := by unfold hitA; rw [hf]
        rw [e2] at e
        exact beginC_free b l root k a ha hon hl hp Ln.zero false false (answer Ln.zero.m a) _ (Lib.hid ⟨by rw [hf]; rfl, by rw [hf]; rfl⟩) (Lib.hid rfl) (Lib.hid rfl) (Lib.hid e) R W h
      | some x =>
        cases hu : useL x a with
        | true =>
          have e2 : hitA l a = some (answer x.m a) := by
            unfold hitA; rw [hf]
            refine if_pos ?_
            unfold useL at hu
            simpa using hu
          rw [e2] at e
          exact beginC_free b l root k a ha hon hl hp x true true (answer x.m a) _ (Lib.hid ⟨by rw [hf]; rfl, by rw [hf]; rfl⟩) (Lib.hid (by rw [hu]; rfl)) (Lib.hid rfl) (Lib.hid e) R W h
        | false =>
          have e2 : hitA l a = none := by
            unfold hitA; rw [hf]
            refine if_neg fun h => ?_
            have : useL x a = true := by unfold useL; simpa using h
            rw [this] at hu; cases hu
          rw [e2] at e
          exact beginC_free b l root k a ha hon hl hp x true false (answer x.m a) _ (Lib.hid ⟨by rw [hf]; rfl, by rw [hf]; rfl⟩) (Lib.hid (by rw [hu]; rfl)) (Lib.hid rfl) (Lib.hid e) R W h
  · have e : coreB l root k a = ⟨An.zero, false, checkAccess a, k⟩ := by unfold coreB; rw [if_pos ha]
    rw [e]
    exact beginC_bad b l root k a ha R W h
end Go.Proofs.Ytmfheghbgihdmaa
namespace Go.Proofs.Ytmfheghbgihdmaa
open Go.RowKit
set_option maxRecDepth 100000
def ptr (b : Nat) : Value := .pointer (some ⟨b, 0, none⟩)
def prow (v : Value) (l : List Nat) : HProp := row 64 1 v l.length (l.map ptr)
theorem prow_len {w : World} {R : HProp} {A : Option Addr} {n c : Nat} {l : List Nat} (h : Has w (prow (.slice A n c) l * R)) : n = l.length := by
  rcases (Has.rowCases (e := 64) (size := 1) h) with ⟨hv, h0, _⟩ | ⟨g, cap, cur, hv, _⟩
  · injection hv with a b
    omega
  · injection hv
theorem prow_at {w : World} {R : HProp} {A : Option Addr} {n c : Nat} {l : List Nat} (h : Has w (prow (.slice A n c) l * R)) {k p : Nat} (hk : l[k]? = some p) :
    ∃ b, A = some ⟨b, 0, none⟩ ∧ b < w.heap.size ∧ w.cell? ⟨b, k, none⟩ = some (.pointer (some ⟨p, 0, none⟩)) := by
  obtain rfl := prow_len h
  obtain ⟨b, e, hb, hc, _⟩ := Has.rowGet (e := 64) (size := 1) h (i := k) (u := ptr p) (by simp [hk])
  exact ⟨b, e, hb, hc⟩
theorem elemPC : Elem Try.prog 64 (.pointer none) 1 8 := ⟨by kernel_rfl, rfl, by omega⟩
/-- Cores, each at its place. -/
def coresAt : List Nat → List Cr → HProp
  | p :: ps, c :: cs => pcAt p c.l 0 c.k * coresAt ps cs
  | _, _ => lift True
theorem cores_at : ∀ {ps : List Nat} {cs : List Cr} {k p : Nat} {c : Cr}, ps[k]? = some p → cs[k]? = some c → ∃ Q, coresAt ps cs = pcAt p c.l 0 c.k * Q ∧ ∀ c', coresAt ps (cs.set k c') = pcAt p c'.l 0 c'.k * Q
  | [], _, _, _, _, h, _ => by simp at h
  | _ :: _, [], _, _, _, _, h => by simp at h
  | q :: ps, d :: cs, 0, p, c, h1, h2 => by
    simp at h1 h2
    subst h1; subst h2
    exact ⟨coresAt ps cs, rfl, fun c' => rfl⟩
  | q :: ps, d :: cs, k + 1, p, c, h1, h2 => by
    simp at h1 h2
    obtain ⟨Q, e1, e2⟩ := cores_at h1 h2
    refine ⟨pcAt q d.l 0 d.k * Q, ?_, fun c' => ?_⟩
    · show pcAt q d.l 0 d.k * coresAt ps cs = _
      rw [e1]; ac_rfl
    · show pcAt q d.l 0 d.k * coresAt ps (cs.set k c') = _
      rw [e2]; ac_rfl
theorem cores_snoc : ∀ (ps : List Nat) (cs : List Cr) (p : Nat) (c : Cr), ps.length = cs.length → coresAt (ps ++ [p]) (cs ++ [c]) = pcAt p c.l 0 c.k * coresAt ps cs
  | [], [], p, c, _ => rfl
  | [], _ :: _, _, _, h => by simp at h
  | _ :: _, [], _, _, h => by simp at h
  | q :: ps, d :: cs, p, c, h => by
    show pcAt q d.l 0 d.k * coresAt (ps ++ [p]) (cs ++ [c]) = _
    rw [cores_snoc ps cs p c (by simpa using h)]
    show _ = pcAt p c.l 0 c.k * (pcAt q d.l 0 d.k * coresAt ps cs)
    ac_rfl
/-- Where the pieces of a Space lie. -/
structure Sl where
  f : Nat
  sh : Nat
  A : Option Addr
  c : Nat
  ps : List Nat
  G : Option Addr
  d : Nat
def spaceIn (b : Nat) (σ : Sc) (y : Sl) (R : HProp) : HProp :=
  blk b #[.pointer (some ⟨y.f, 0, none⟩), (Value.int .i64) 0, .slice y.A y.ps.length y.c, .pointer (some ⟨y.sh, 0, none⟩), Value.bool σ.busy, .slice y.G σ.gone.length y.d] 63 * (prow (.slice y.A y.ps.length y.c) y.ps * (irow (.slice y.G σ.gone.length y.d) σ.gone *
    (shootAt y.sh σ.told σ.wait * (coresAt y.ps σ.cs * (frA y.f σ.s * R)))))
def spaceAt (b : Nat) (σ : Sc) : HProp := ex fun y => lift (y.ps.length = σ.cs.length) * spaceIn b σ y (lift True)
section
variable {w : World} {b : Nat} {σ : Sc} {R : HProp}
theorem spaceAt_open (h : Has w (spaceAt b σ * R)) : ∃ y, y.ps.length = σ.cs.length ∧ Has w (spaceIn b σ y R) := by
  unfold spaceAt at h
  obtain ⟨y, h⟩ := has_ex_star.1 h
  rw [star_assoc] at h
  obtain ⟨hy, h⟩ := has_lift.1 h
  refine ⟨y, hy, ?_⟩
  have h2 : Has w (lift True * spaceIn b σ y R) := h.eq (by unfold spaceIn; ac_rfl)
  exact h2.right
theorem spaceAt_shut {y : Sl} (hy : y.ps.length = σ.cs.length) (h : Has w (spaceIn b σ y R)) : Has w (spaceAt b σ * R) := by
  unfold spaceAt
  refine has_ex_star.2 ⟨y, ?_⟩
  rw [star_assoc]
  refine has_lift.2 ⟨hy, ?_⟩
  have h2 : Has w (lift True * spaceIn b σ y R) := has_lift.2 ⟨trivial, h⟩
  exact h2.eq (by unfold spaceIn; ac_rfl)
end
/-- A step's words over frames that agree in what is in use. -/
theorem Agree.stepC {s s' : Ms} (h : Agree s' s) (r : Int) (k : Ck) : (Go.Proofs.Ytmfheghbgihdmaa.stepC s' r k).c = (Go.Proofs.Ytmfheghbgihdmaa.stepC s r k).c ∧ (Go.Proofs.Ytmfheghbgihdmaa.stepC s' r k).r = (Go.Proofs.Ytmfheghbgihdmaa.stepC s r k).r ∧ (Go.Proofs.Ytmfheghbgihdmaa.stepC s' r k).code = (Go.Proofs.Ytmfheghbgihdmaa.stepC s r k).code ∧
    Agree (Go.Proofs.Ytmfheghbgihdmaa.stepC s' r k).s (Go.Proofs.Ytmfheghbgihdmaa.stepC s r k).s := by
  unfold Go.Proofs.Ytmfheghbgihdmaa.stepC
  by_cases h1 : k.on = false
  · rw [if_pos h1, if_pos h1]; exact ⟨rfl, rfl, rfl, h⟩
  rw [if_neg h1, if_neg h1, h.has]
  by_cases h2 : s.has k.t = false
  · rw [if_pos h2, if_pos h2]; exact ⟨rfl, rfl, rfl, h⟩
  rw [if_neg h2, if_neg h2]
  have ew : k.word s' = k.word s := h.word (by rw [h.has]; simpa using h2) _
  rw [ew]
  by_cases h3 : k.mark = true ∧ k.word s ≠ k.w
  · rw [if_pos h3, if_pos h3]; exact ⟨rfl, rfl, rfl, h⟩
  rw [if_neg h3, if_neg h3]
  by_cases h4 : decC (k.word s) k.level ≠ 0
  · rw [if_pos h4, if_pos h4]; exact ⟨rfl, rfl, rfl, h⟩
  rw [if_neg h4, if_neg h4]
  by_cases h5 : (decE (k.word s) k.level).there = false
  · rw [if_pos h5, if_pos h5]; exact ⟨rfl, rfl, rfl, h⟩
  rw [if_neg h5, if_neg h5]
  by_cases h6 : (decE (k.word s) k.level).leaf = false
  · rw [if_pos h6, if_pos h6]; exact ⟨rfl, rfl, rfl, h⟩
  rw [if_neg h6, if_neg h6]
  by_cases h7 : may (decE (k.word s) k.level).rights k.a = false
  · rw [if_pos h7, if_pos h7]; exact ⟨rfl, rfl, rfl, h⟩
  rw [if_neg h7, if_neg h7]
  by_cases h8 : k.mark = true
  · rw [if_pos h8, if_pos h8]; exact ⟨rfl, rfl, rfl, h.setW _ _ _⟩
  rw [if_neg h8, if_neg h8]
  by_cases h9 : readyE (decE (k.word s) k.level) k.a = true
  · rw [if_pos h9, if_pos h9]; exact ⟨rfl, rfl, rfl, h⟩
  rw [if_neg h9, if_neg h9]
  exact ⟨rfl, rfl, rfl, h⟩
theorem stepA (b f : Nat) (c : Cr) (s : Ms) (hc : Tl.Ok c.l ∧ c.k.Ok) (R : HProp) (W : World) (h : Has W (pcAt b c.l 0 c.k * (frA f s * R))) :
    Calls Try.prog 25 #[.pointer (some ⟨b, 0, none⟩), .pointer (some ⟨f, 0, none⟩)] W
      (Res (.tuple #[.agg #[(Value.int .i64) (stepC s 0 c.k).r.an.fin, (Value.int .i64) (stepC s 0 c.k).r.an.frame, (Value.int .i64) (stepC s 0 c.k).r.an.rights], Value.bool (stepC s 0 c.k).r.fin, (Value.int .i64) (stepC s 0 c.k).code]) (pcAt b (keepL c.l (stepC s 0 c.k).r) 0 (stepC s 0 c.k).c * (frA f (stepC s 0 c.k).s * R)) W) := by
  obtain ⟨s', ho, ha, h'⟩ := frA_open h.p2
  obtain ⟨a1, a2, a3, a4⟩ := ha.stepC 0 c.k
  refine (stepPC b f c.l 0 c.k s' hc.1 ho hc.2 R W h'.p2).mono ?_
  rintro e w' ⟨he, h2, x2⟩
  rw [a2, a3] at he
  rw [a1, a2] at h2
  exact ⟨he, (frA_shut h2.p2 (stepC_ok ho 0 c.k) a4).p2, x2⟩
end Go.Proofs.Ytmfheghbgihdmaa
namespace Go.Proofs.Ytmfheghbgihdmaa
open Go.RowKit
section
variable {s s' : Ms} {r : Int} {gone : List Int} {X : Int → Prop}
/-- Words go, and nothing else: a way is no longer than it was. -/
theorem tabD_less (hw : ∀ a b, s'.wd a b = s.wd a b ∨ s'.wd a b = 0) (hh : ∀ u, s'.has u = s.has u) {q : Int} : ∀ (d : Nat) (t : Int), d ≤ 4 → tabD s' r q d = some t → tabD s r q d = some t := by
  intro d
  induction d with
  | zero => intro t _ h; exact h
  | succ d ih =>
    intro t hd h
    obtain ⟨u, hu, hg, hf⟩ := tabD_succ.1 h
    refine tabD_succ.2 ⟨u, ih u (by omega) hu, ?_⟩
    have g3 := (goB_iff.1 hg).2.2.1
    have e : wordV s' u (index q (3 - d : Nat)) = wordV s u (index q (3 - d : Nat)) := by
      rcases hw u.toNat (index q (3 - d : Nat)).toNat with e | e
      · exact e
      · have e : wordV s' u (index q (3 - d : Nat)) = 0 := e
        unfold eOf at g3
        rw [e, (dec_zero (by omega)).2] at g3
        cases g3
    unfold goB eOf at hg
    unfold eOf at hf
    rw [e, hh] at hg
    rw [e] at hf
    unfold goB eOf
    exact ⟨hg, hf⟩
/-- What stands stays: a way is no shorter than it was. -/
theorem tabD_more (hu : ∀ u i, s.has u = true → 0 ≤ i → s'.has u = true ∧ (wordV s u i = 0 ∨ wordV s' u i = wordV s u i)) {q : Int} (hq : InP q) : ∀ (d : Nat) (t : Int), d ≤ 4 → tabD s r q d = some t → tabD s' r q d = some t := by
  intro d
  induction d with
  | zero => intro t _ h; exact h
  | succ d ih =>
    intro t hd h
    obtain ⟨u, hu', hg, hf⟩ := tabD_succ.1 h
    refine tabD_succ.2 ⟨u, ih u (by omega) hu', ?_⟩
    obtain ⟨g1, _, g3, _⟩ := goB_iff.1 hg
    have hi := index_range hq (show 3 - d ≤ 3 by omega)
    obtain ⟨k1, k2⟩ := hu u (index q (3 - d : Nat)) g1 hi.1
    have e : wordV s' u (index q (3 - d : Nat)) = wordV s u (index q (3 - d : Nat)) := by
      rcases k2 with e | e
      · unfold eOf at g3
        rw [e, (dec_zero (by omega)).2] at g3
        cases g3
      · exact e
    unfold goB eOf at hg
    unfold eOf at hf
    unfold goB eOf
    rw [e, k1]
    rw [g1] at hg
    exact ⟨hg, hf⟩
theorem setW_less (s : Ms) (t i : Nat) (a b : Nat) : (s.setW t i 0).wd a b = s.wd a b ∨ (s.setW t i 0).wd a b = 0 := by
  show (if a = t ∧ b = i then (0 : Int) else s.wd a b) = _ ∨ (if a = t ∧ b = i then (0 : Int) else s.wd a b) = 0
  split
  · exact .inr rfl
  · exact .inl rfl
theorem cutR_less {p : Int} {tabs : List Int} : ∀ (k : Nat) (s : Ms) (a b : Nat), (cutR p tabs k s).1.wd a b = s.wd a b ∨ (cutR p tabs k s).1.wd a b = 0 := by
  intro k
  induction k with
  | zero => intro s a b; exact setW_less _ _ _ _ _
  | succ k ih =>
    intro s a b
    unfold cutR
    split
    · rcases ih (s.setW (tabs.getD (k + 1) 0).toNat (index p (3 - (k + 1) : Nat)).toNat 0) a b with e | e
      · rw [e]
        exact setW_less _ _ _ _ _
      · exact .inr e
    · exact setW_less _ _ _ _ _
theorem remS_less (s : Ms) (r p : Int) (a b : Nat) : (remS s r p).wd a b = s.wd a b ∨ (remS s r p).wd a b = 0 := by
  unfold remS
  split
  · exact cutR_less _ _ _ _
  · exact .inl rfl
/-- Behind a Remove a table on the way to a page is there still; or it goes, and nothing is mapped there. -/
theorem rem_walk (hw : Wf s r gone (fun _ => False)) (hi : s.Inv) {p : Int} (hf : findC s r p = 0) {q t : Int} {d : Nat} (hq : InP q) (hd : d ≤ 3) (ht : tabD s r q d = some t) :
    tabD (remS s r p) r q d = some t ∨ (t ∈ remG s r p ∧ mapAt (remS s r p) r q = none) := by
  obtain ⟨w1, _, w3, _, w5, w6⟩ := rem_ok hw hi hf
  have hh : ∀ u, (remS s r p).has u = s.has u := fun u => by unfold Ms.has; rw [w3, w5]
  have htu := hw.nat hq hd ht
  have hu : (remS s r p).tk t.toNat = true := by rw [w5]; exact htu.2.2
  rcases (w1.use t.toNat).1 hu with hT | hG
  · rw [Int.toNat_of_nonneg htu.1] at hT
    obtain ⟨q', d', hq', hd', ht'⟩ := hT
    have h1 := tabD_less (remS_less s r p) hh d' t (by omega) ht'
    obtain ⟨e, hpre⟩ := hw.inj q' q d' d t hq' hq hd' hd h1 ht
    subst e
    left
    rw [← ht']
    exact tabD_prefix _ r hq hq' d' (by omega) hpre.symm
  · rw [Int.toNat_of_nonneg htu.1] at hG
    have hng : t ∉ gone := fun h => hw.gt t h ⟨q, d, hq, hd, ht⟩
    have hr : t ∈ remG s r p := by
      rw [List.mem_append, List.mem_reverse] at hG
      exact hG.resolve_right hng
    refine .inr ⟨hr, ?_⟩
    obtain ⟨m1, m2⟩ := w6 q hq
    by_cases ho : over (findM s r p) q = true
    · rw [m1, if_pos ho]
    · rw [m1, if_neg ho]
      cases hm : mapAt s r q with
      | none => rfl
      | some m =>
        exfalso
        have hway := m2 (by simpa using ho) (by rw [hm]; simp)
        obtain ⟨e, u, he⟩ := hw.ends q hq
        obtain ⟨e', u', he'⟩ := w1.ends q hq
        rw [way_ends hq.1 hq.2 he', way_ends hq.1 hq.2 he] at hway
        injection hway with _ htabs _ _
        have hl := congrArg List.length htabs
        rw [tabsD_len, tabsD_len] at hl
        obtain rfl : e' = e := by omega
        have hde : d ≤ e' := by
          rcases Nat.lt_or_ge e' d with h | h
          · have := tabD_none_mono (tabD_none he.tab he.no) d h
            rw [ht] at this; cases this
          · exact h
        obtain ⟨v, hv⟩ := tabD_some_mono he'.tab hde
        have hg := congrArg (fun l => l.getD d 0) htabs
        rw [tabsD_get hv (by omega), tabsD_get ht (by omega)] at hg
        subst hg
        exact w1.gt v (by rw [List.mem_append, List.mem_reverse]; exact .inl hr) ⟨q, d, hq, hd, hv⟩
/-- What stood in frames in use stands there behind a chain, but at its first place. -/
theorem chain_use {p lw : Int} {sz : Nat} : ∀ (n : Nat) (t : Int) (s : Ms), s.Inv → s.n ≤ 128 → sz + n ≤ 3 → (chain s p lw sz n t).n = s.n ∧ ∀ a b, s.tk a = true → (chain s p lw sz n t).tk a = true ∧ ((a = t.toNat ∧ b = (index p (sz + n : Nat)).toNat) ∨ (chain s p lw sz n t).wd a b = s.wd a b) := by
  intro n
  induction n with
  | zero =>
    intro t s _ _ _
    refine ⟨rfl, fun a b ha => ⟨ha, ?_⟩⟩
    show _ ∨ (if a = t.toNat ∧ b = (index p sz).toNat then lw else s.wd a b) = s.wd a b
    by_cases h : a = t.toNat ∧ b = (index p sz).toNat
    · exact .inl h
    · right; rw [if_neg h]
  | succ n ih =>
    intro t s hi hn hs
    unfold chain
    cases hk : s.top with
    | none => exact ⟨rfl, fun a b ha => ⟨ha, .inr rfl⟩⟩
    | some k =>
      dsimp only
      obtain ⟨k1, k2⟩ := Ms.top_lt hi hk
      have hI : ((s.take k).setW t.toNat (index p (sz + n + 1 : Nat)).toNat (tabW k (sz + n + 1))).Inv := (hi.take hk).setW _ _ (tabW_range (by omega) (by omega) (by omega) (by omega))
      obtain ⟨i1, i2⟩ := ih k _ hI hn (by omega)
      refine ⟨i1, fun a b ha => ?_⟩
      have hak : a ≠ k := by rintro rfl; rw [k2] at ha; cases ha
      have ha' : ((s.take k).setW t.toNat (index p (sz + n + 1 : Nat)).toNat (tabW k (sz + n + 1))).tk a = true := by
        show fput s.tk k true a = true
        rw [fput_ne _ _ hak]; exact ha
      obtain ⟨j1, j2⟩ := i2 a b ha'
      refine ⟨j1, ?_⟩
      rcases j2 with j2 | j2
      · have := j2.1
        simp at this
        exact absurd this hak
      · rw [j2]
        show _ ∨ (if a = t.toNat ∧ b = (index p (sz + n + 1 : Nat)).toNat then tabW k (sz + n + 1) else (if a = k then 0 else s.wd a b)) = s.wd a b
        by_cases h : a = t.toNat ∧ b = (index p (sz + n + 1 : Nat)).toNat
        · exact .inl h
        · right; rw [if_neg h, if_neg hak]
/-- Behind an Insert a table on the way to a page is there still. -/
theorem ins_walk (hw : Wf s r gone (fun _ => False)) (hi : s.Inv) (hn : s.n ≤ 128) (x : Mp) {q t : Int} {d : Nat} (hq : InP q) (hd : d ≤ 3) (ht : tabD s r q d = some t) : tabD (insS s r x) r q d = some t := by
  unfold insS
  by_cases hc : insC s r x = 0
  · rw [if_pos hc]
    unfold insC at hc
    by_cases hk : check x = 0
    · have hx := mapOk_of hk
      have hp := hx.inP
      have hwc := (wayE_map hw hp).1
      rw [if_neg (by omega), if_neg (by rw [hwc]; simp)] at hc
      by_cases h : (way s r x.page).e.there = true ∨ (way s r x.page).lev < x.size
      · rw [if_pos h] at hc; cases hc
      rw [not_or] at h
      obtain ⟨d0, t0, he⟩ := hw.ends _ hp
      have hle := he.le
      rw [way_ends hp.1 hp.2 he] at h ⊢
      dsimp only at h ⊢
      obtain ⟨z, hz, hz3⟩ : ∃ z : Nat, x.size = z ∧ z < 3 := by
        rcases hx.size with ⟨a, _⟩ | ⟨a, _⟩ | ⟨a, _⟩
        · exact ⟨0, a, by omega⟩
        · exact ⟨1, a, by omega⟩
        · exact ⟨2, a, by omega⟩
      rw [tabsD_last he.tab]
      rw [hz] at h ⊢
      have ht0 : (eOf s x.page t0 (3 - d0)).there = false := by simpa using h.1
      have hz0 := (he.not ht0).2
      have e1 : (z : Int).toNat = z := by omega
      have e2 : (((3 - d0 : Nat) : Int) - (z : Int)).toNat = 3 - d0 - z := by omega
      rw [e1, e2]
      have hzd : z ≤ 3 - d0 := by have := h.2; omega
      have hsum : z + (3 - d0 - z) = 3 - d0 := by omega
      obtain ⟨c1, c2⟩ := chain_use (p := x.page) (lw := encW (leafE x) z) (sz := z) (3 - d0 - z) t0 s hi hn (by omega)
      rw [hsum] at c2
      have hpi := index_range hp (show 3 - d0 ≤ 3 by omega)
      refine tabD_more (fun u i hu hi0 => ?_) hq d t (by omega) ht
      obtain ⟨u0, u1, u2⟩ := Ms.has_iff.1 hu
      obtain ⟨j1, j2⟩ := c2 u.toNat i.toNat u2
      refine ⟨Ms.has_iff.2 ⟨u0, by rw [c1]; exact u1, j1⟩, ?_⟩
      rcases j2 with ⟨a, b⟩ | j2
      · left
        have htu := (hw.nat hp he.le he.tab).1
        obtain rfl : u = t0 := by omega
        obtain rfl : i = index x.page (3 - d0 : Nat) := by omega
        exact hz0
      · exact .inr j2
    · rw [if_pos hk] at hc; exact absurd hc hk
  · rw [if_neg hc]; exact ht
/-- Frames that are given back one after the other. -/
theorem giveL_use : ∀ (l : List Int) (s : Ms), s.Inv → (giveL s l).Inv ∧ (giveL s l).n = s.n ∧ (giveL s l).wd = s.wd ∧ ∀ a : Nat, (giveL s l).tk a = true ↔ s.tk a = true ∧ (a : Int) ∉ l := by
  intro l
  induction l with
  | nil => intro s hi; exact ⟨hi, rfl, rfl, fun a => by simp [giveL]⟩
  | cons k l ih =>
    intro s hi
    show (giveL (s.giveS k) l).Inv ∧ _
    cases hk : s.has k with
    | true =>
      have e : s.giveS k = s.give k.toNat := by unfold Ms.giveS; rw [if_pos hk]
      rw [show giveL s (k :: l) = giveL (s.give k.toNat) l by rw [← e]; rfl, e]
      obtain ⟨k0, k1, k2⟩ := Ms.has_iff.1 hk
      obtain ⟨i1, i2, i3, i4⟩ := ih (s.give k.toNat) (hi.give k2)
      refine ⟨i1, i2, i3, fun a => ?_⟩
      rw [i4 a]
      show fput s.tk k.toNat false a = true ∧ _ ↔ _
      by_cases h : a = k.toNat
      · subst h
        rw [fput_self]
        have : ((k.toNat : Nat) : Int) = k := by omega
        rw [this]
        simp
      · rw [fput_ne _ _ h]
        have : (a : Int) ≠ k := by omega
        simp [this]
    | false =>
      have e : s.giveS k = s := by unfold Ms.giveS; rw [if_neg (by rw [hk]; simp)]
      rw [e, show giveL s (k :: l) = giveL s l from (congrArg (fun x => giveL x l) e : giveL (s.giveS k) l = giveL s l)]
      obtain ⟨i1, i2, i3, i4⟩ := ih s hi
      refine ⟨i1, i2, i3, fun a => ?_⟩
      rw [i4 a]
      constructor
      · rintro ⟨a1, a2⟩
        refine ⟨a1, fun hm => ?_⟩
        rcases List.mem_cons.1 hm with h | h
        · have hl := hi.tkl a a1
          have hle := hi.le
          rw [← h] at hk
          rw [Ms.has_nat hi, a1] at hk
          cases hk
        · exact a2 h
      · rintro ⟨a1, a2⟩
        exact ⟨a1, fun hm => a2 (List.mem_cons_of_mem _ hm)⟩
/-- What goes was given back: ways are as they were. -/
theorem give_tab (hw : Wf s r gone X) (hi : s.Inv) {q : Int} (hq : InP q) : ∀ d, d ≤ 4 → tabD (giveL s gone) r q d = tabD s r q d := by
  obtain ⟨_, g2, g3, g4⟩ := giveL_use gone s hi
  intro d
  induction d with
  | zero => intro _; rfl
  | succ d ih =>
    intro hd
    show (tabD (giveL s gone) r q d).bind _ = (tabD s r q d).bind _
    rw [ih (by omega)]
    cases hu : tabD s r q d with
    | none => rfl
    | some u =>
      simp only [Option.bind_some]
      have hh : (giveL s gone).has u = s.has u := by
        rw [Bool.eq_iff_iff, Ms.has_iff, Ms.has_iff, g2, g4]
        constructor
        · rintro ⟨a, b, c, _⟩; exact ⟨a, b, c⟩
        · rintro ⟨a, b, c⟩
          refine ⟨a, b, c, fun hm => ?_⟩
          rw [Int.toNat_of_nonneg a] at hm
          exact hw.gt u hm ⟨q, d, hq, by omega, hu⟩
      unfold goB eOf wordV
      rw [hh, g3]
theorem give_ends (hw : Wf s r gone X) (hi : s.Inv) {q t : Int} {d : Nat} (hq : InP q) (he : Ends s r q d t) : Ends (giveL s gone) r q d t ∧ eOf (giveL s gone) q t (3 - d) = eOf s q t (3 - d) := by
  obtain ⟨_, g2, g3, g4⟩ := giveL_use gone s hi
  have hw' : ∀ i, wordV (giveL s gone) t i = wordV s t i := fun i => by unfold wordV; rw [g3]
  have hh : (giveL s gone).has t = true := by
    obtain ⟨a, b, c⟩ := Ms.has_iff.1 he.use
    refine Ms.has_iff.2 ⟨a, by rw [g2]; exact b, (g4 _).2 ⟨c, fun hm => ?_⟩⟩
    rw [Int.toNat_of_nonneg a] at hm
    exact hw.gt t hm ⟨q, d, hq, he.le, he.tab⟩
  refine ⟨⟨he.le, (give_tab hw hi hq d (by have := he.le; omega)).trans he.tab, hh, by rw [hw']; exact he.dec, ?_⟩, by unfold eOf; rw [hw']⟩
  have := he.no
  unfold goB eOf at this ⊢
  rw [hw', hh]
  rw [he.use] at this
  exact this
theorem give_way (hw : Wf s r gone X) (hi : s.Inv) {q : Int} (hq : InP q) : way (giveL s gone) r q = way s r q := by
  obtain ⟨d, t, he⟩ := hw.ends q hq
  obtain ⟨h1, h2⟩ := give_ends hw hi hq he
  rw [way_ends hq.1 hq.2 h1, way_ends hq.1 hq.2 he, h2]
  have : tabsD (giveL s gone) r q (d + 1) = tabsD s r q (d + 1) := by
    unfold tabsD
    refine List.map_congr_left fun x hx => ?_
    rw [give_tab hw hi hq x (by have := List.mem_range.1 hx; have := he.le; omega)]
  rw [this]
theorem give_inT (hw : Wf s r gone X) (hi : s.Inv) (t : Int) : InT (giveL s gone) r t ↔ InT s r t := by
  constructor
  · rintro ⟨q, d, hq, hd, h⟩; exact ⟨q, d, hq, hd, by rw [← give_tab hw hi hq d (by omega)]; exact h⟩
  · rintro ⟨q, d, hq, hd, h⟩; exact ⟨q, d, hq, hd, by rw [give_tab hw hi hq d (by omega)]; exact h⟩
theorem Wf.give (hw : Wf s r gone X) (hi : s.Inv) : Wf (giveL s gone) r [] X := by
  obtain ⟨_, g2, g3, g4⟩ := giveL_use gone s hi
  refine ⟨fun p hp => ?_, fun p q d e t hp hq hd he h1 h2 => ?_, fun p d t hp hd h => ?_, fun k => ?_, List.nodup_nil, fun g hg => (by cases hg), fun g hg => (by cases hg)⟩
  · obtain ⟨d, t, he⟩ := hw.ends p hp
    exact ⟨d, t, (give_ends hw hi hp he).1⟩
  · rw [give_tab hw hi hp d (by omega)] at h1
    rw [give_tab hw hi hq e (by omega)] at h2
    exact hw.inj p q d e t hp hq hd he h1 h2
  · rw [give_tab hw hi hp (d + 1) (by omega)] at h
    have := hw.full p d t hp hd h
    unfold wordV at this ⊢
    rw [g3]
    exact this
  · rw [g4 k, hw.use k, give_inT hw hi]
    constructor
    · rintro ⟨a | a, b⟩
      · exact .inl a
      · exact absurd a b
    · rintro (a | a)
      · exact ⟨.inl a, fun hm => hw.gt _ hm a⟩
      · cases a
end
end Go.Proofs.Ytmfheghbgihdmaa
namespace Go.Proofs.Ytmfheghbgihdmaa
open Go.RowKit
theorem Bk.find_iff {L : List Mp} (h : Bk.Ok L) {q : Int} {m : Mp} : Bk.find L q = some m ↔ m ∈ L ∧ over m q = true := by
  constructor
  · exact Bk.find_mem
  · rintro ⟨hm, ho⟩
    obtain ⟨k, hk, rfl⟩ := List.getElem_of_mem hm
    exact (Bk.over_at h hk ho).2
section
variable {s : Ms} {r : Int} {gone : List Int} {X : Int → Prop} {L : List Mp}
theorem lk_code (hw : Wf s r gone (fun _ => False)) (hL : Lk s r L) (p : Int) : findC s r p = Bk.dropC L p ∧ findM s r p = (Bk.dropR L p).getD Mp.zero := by
  unfold Bk.dropC Bk.dropR
  by_cases hp : InP p
  · have hB : hasB p = true := by unfold hasB; rw [decide_eq_true hp.1, decide_eq_true hp.2]; rfl
    rw [if_pos hB, if_pos hB, hL.same p hp]
    exact hw.find hp
  · have hB : ¬ hasB p = true := by
      unfold hasB
      rw [Bool.and_eq_true, decide_eq_true_eq, decide_eq_true_eq]
      exact hp
    rw [if_neg hB, if_neg hB]
    have := find_out (s := s) (r := r) hp
    have hc : findC s r p = 1 := by unfold findC; rw [this]; rfl
    refine ⟨hc, ?_⟩
    unfold findM
    rw [if_neg (by rw [hc]; decide)]
    rfl
theorem lk_ins (hw : Wf s r gone (fun _ => False)) (hi : s.Inv) (hn : s.n ≤ 128) (hL : Lk s r L) {x : Mp} (hc : insC s r x = 0) : Lk (insS s r x) r (Bk.add L x) ∧ Bk.addC L x = 0 := by
  have hac : Bk.addC L x = 0 := by
    rcases ins_code hw hL x with h | h
    · rw [hc] at h; cases h.1
    · rw [← h]; exact hc
  refine ⟨?_, hac⟩
  unfold Bk.addC at hac
  by_cases hk : check x = 0
  · rw [if_neg (by simpa using hk)] at hac
    have hx := mapOk_of hk
    have hb : Bk.bad L x = false := by
      cases hb : Bk.bad L x with
      | false => rfl
      | true => rw [hb, if_pos rfl] at hac; cases hac
    have hadd : Bk.add L x = Bk.ins L x := by unfold Bk.add; rw [if_pos ⟨hk, hb⟩]
    have hok : Bk.Ok (Bk.ins L x) := hL.ok.ins hx hb
    rw [hadd]
    obtain ⟨_, _, _, w4⟩ := ins_ok hw hi hn x
    refine ⟨hok, fun q hq => ?_⟩
    rw [(w4 q hq).1, ← hL.same q hq]
    refine Option.ext fun m => ?_
    rw [Bk.find_iff hok, Bk.mem_ins]
    by_cases ho : over x q = true
    · rw [if_pos ⟨hc, ho⟩]
      constructor
      · rintro ⟨rfl | hm, h2⟩
        · rfl
        · have := meet_of (hL.ok.chk m hm) hx h2 ho
          rw [Bk.bad_false hb m hm] at this
          cases this
      · intro h
        injection h with h
        subst h
        exact ⟨.inl rfl, ho⟩
    · rw [if_neg (fun h => ho h.2), Bk.find_iff hL.ok]
      constructor
      · rintro ⟨rfl | hm, h2⟩
        · exact absurd h2 ho
        · exact ⟨hm, h2⟩
      · rintro ⟨hm, h2⟩
        exact ⟨.inr hm, h2⟩
  · rw [if_pos hk] at hac
    exact absurd hac hk
theorem lk_found (hw : Wf s r gone (fun _ => False)) (hL : Lk s r L) {p : Int} (hf : findC s r p = 0) : InP p ∧ hasB p = true ∧ Bk.find L p = some (findM s r p) ∧ findM s r p ∈ L ∧ over (findM s r p) p = true := by
  have hp := find_zero hf
  have hB : hasB p = true := by unfold hasB; rw [decide_eq_true hp.1, decide_eq_true hp.2]; rfl
  obtain ⟨d, t, he, hl, hwe, hm, h3, ho⟩ := hw.found hf
  have := (hL.same p hp).trans hm
  exact ⟨hp, hB, this, Bk.find_mem this⟩
theorem lk_rem (hw : Wf s r gone (fun _ => False)) (hi : s.Inv) (hL : Lk s r L) {p : Int} (hf : findC s r p = 0) : Lk (remS s r p) r (Bk.dropL L p) := by
  obtain ⟨hp, hB, h1, h2, h3⟩ := lk_found hw hL hf
  have hd : Bk.dropL L p = Bk.del L p := by unfold Bk.dropL; rw [if_pos hB]
  have hok : Bk.Ok (Bk.del L p) := hL.ok.del p
  rw [hd]
  obtain ⟨_, _, _, _, _, w6⟩ := rem_ok hw hi hf
  generalize findM s r p = M at *
  refine ⟨hok, fun q hq => ?_⟩
  rw [(w6 q hq).1, ← hL.same q hq]
  refine Option.ext fun m => ?_
  have one : ∀ m, m ∈ L → over m p = true → m = M := fun m hm ho => by
    have := (Bk.find_iff hL.ok).2 ⟨hm, ho⟩
    rw [h1] at this
    injection this with this
    exact this.symm
  rw [Bk.find_iff hok]
  unfold Bk.del
  rw [List.mem_filter]
  by_cases ho : over M q = true
  · rw [if_pos ho]
    constructor
    · rintro ⟨⟨hm, hn⟩, hq'⟩
      have e1 := (Bk.find_iff hL.ok).2 ⟨hm, hq'⟩
      have e2 := (Bk.find_iff hL.ok).2 ⟨h2, ho⟩
      rw [e1] at e2
      injection e2 with e2
      subst e2
      rw [h3] at hn
      cases hn
    · intro h; cases h
  · rw [if_neg ho, Bk.find_iff hL.ok]
    constructor
    · rintro ⟨⟨hm, _⟩, hq'⟩; exact ⟨hm, hq'⟩
    · rintro ⟨hm, hq'⟩
      refine ⟨⟨hm, ?_⟩, hq'⟩
      cases hov : over m p with
      | false => rfl
      | true =>
        rw [one m hm hov] at hq'
        exact absurd hq' ho
theorem lk_pr (hw : Wf s r gone (fun _ => False)) (hi : s.Inv) (hL : Lk s r L) {p ri : Int} (hf : prC s r p ri = 0) : Lk (prS s r p ri) r (Bk.protL L p ri) := by
  have hr : 0 ≤ ri ∧ ri ≤ 7 := by
    unfold prC at hf
    split at hf
    · cases hf
    · omega
  have hf0 : findC s r p = 0 := by
    unfold prC at hf
    rw [if_neg (by omega)] at hf
    exact hf
  obtain ⟨hp, hB, h1, h2, h3⟩ := lk_found hw hL hf0
  have hd : Bk.protL L p ri = Bk.prot L p ri := by unfold Bk.protL; rw [if_pos (Bk.protB_iff.2 ⟨hp.1, hp.2, hr.1, hr.2⟩)]
  have hok : Bk.Ok (Bk.prot L p ri) := hL.ok.prot p hr.1 hr.2
  rw [hd]
  obtain ⟨_, _, _, _, _, w6⟩ := pr_ok hw hi hf
  generalize findM s r p = M at *
  refine ⟨hok, fun q hq => ?_⟩
  refine Option.ext fun m => ?_
  have one : ∀ m, m ∈ L → over m p = true → m = M := fun m hm ho => by
    have := (Bk.find_iff hL.ok).2 ⟨hm, ho⟩
    rw [h1] at this
    injection this with this
    exact this.symm
  have oneq : over M q = true → ∀ m, m ∈ L → over m q = true → m = M := fun hq' m hm ho => by
    have e1 := (Bk.find_iff hL.ok).2 ⟨hm, ho⟩
    have e2 := (Bk.find_iff hL.ok).2 ⟨h2, hq'⟩
    rw [e1] at e2
    injection e2
  rw [Bk.find_iff hok]
  unfold Bk.prot
  rw [List.mem_map]
  by_cases ho : over M q = true
  · rw [((w6 q hq).1 ho).2.1]
    constructor
    · rintro ⟨⟨y, hy, rfl⟩, hq'⟩
      have e : y = M := by
        by_cases hyp : over y p = true
        · exact one y hy hyp
        · rw [if_neg hyp] at hq'
          exact oneq ho y hy hq'
      subst e
      rw [if_pos h3]
    · intro h
      injection h with h
      subst h
      exact ⟨⟨M, h2, by rw [if_pos h3]⟩, ho⟩
  · have e := (w6 q hq).2 (by simpa using ho)
    rw [mapAt_way e, ← hL.same q hq, Bk.find_iff hL.ok]
    constructor
    · rintro ⟨⟨y, hy, rfl⟩, hq'⟩
      by_cases hyp : over y p = true
      · rw [if_pos hyp, one y hy hyp] at hq'
        exact absurd hq' ho
      · rw [if_neg hyp] at hq' ⊢
        exact ⟨hy, hq'⟩
    · rintro ⟨hm, hq'⟩
      have hn : ¬ over m p = true := fun hov => by
        rw [one m hm hov] at hq'
        exact ho hq'
      exact ⟨⟨m, hm, by rw [if_neg hn]⟩, hq'⟩
end
end Go.Proofs.Ytmfheghbgihdmaa
namespace Go.Proofs.Ytmfheghbgihdmaa
open Go.RowKit
def ansM (o : Option Mp) (a : Ac) : An := match o with | none => ⟨1, 0, 0⟩ | some m => answer m a
/-- A walk stands in a table on its way. -/
def OnTree (s : Ms) (r : Int) (k : Ck) : Prop := ∃ d : Nat, d ≤ 3 ∧ k.level = ((3 - d : Nat) : Int) ∧ tabD s r k.a.page d = some k.t
/-- A walk stands in a table that goes, and nothing is mapped at its page. -/
def Lost (s : Ms) (r : Int) (gone : List Int) (k : Ck) : Prop := k.t ∈ gone ∧ mapAt s r k.a.page = none
/-- Marks alone may be others. -/
structure Marked (s s' : Ms) (r : Int) : Prop where
  n : s'.n = s.n
  tk : ∀ u, s'.tk u = s.tk u
  fr : s'.frees = s.frees
  tab : ∀ q, InP q → ∀ d, d ≤ 4 → tabD s' r q d = tabD s r q d
  map : ∀ q, InP q → mapAt s' r q = mapAt s r q
  lev : ∀ q, InP q → (way s' r q).lev = (way s r q).lev
  used : ∀ q, InP q → (way s r q).e.used = true → (way s' r q).e.used = true
  dirty : ∀ q, InP q → (way s r q).e.dirty = true → (way s' r q).e.dirty = true
theorem Marked.refl (s : Ms) (r : Int) : Marked s s r := ⟨rfl, fun _ => rfl, rfl, fun _ _ _ _ => rfl, fun _ _ => rfl, fun _ _ => rfl, fun _ _ h => h, fun _ _ h => h⟩
/-- A line that is kept says what is mapped. -/
structure Kept (s : Ms) (r : Int) (x : Ln) : Prop where
  inP : InP x.m.page
  map : mapAt s r x.m.page = some x.m
  used : (way s r x.m.page).e.used = true
  dirty : x.dirty = true → (way s r x.m.page).e.dirty = true
theorem Kept.mark {s s' : Ms} {r : Int} {x : Ln} (h : Kept s r x) (m : Marked s s' r) : Kept s' r x :=
  ⟨h.inP, (m.map _ h.inP).trans h.map, m.used _ h.inP h.used, fun d => m.dirty _ h.inP (h.dirty d)⟩
theorem OnTree.mark {s s' : Ms} {r : Int} {k : Ck} (hp : InP k.a.page) (h : OnTree s r k) (m : Marked s s' r) : OnTree s' r k := by
  obtain ⟨d, hd, hl, ht⟩ := h
  exact ⟨d, hd, hl, (m.tab _ hp d (by omega)).trans ht⟩
theorem Lost.mark {s s' : Ms} {r : Int} {gone : List Int} {k : Ck} (hp : InP k.a.page) (h : Lost s r gone k) (m : Marked s s' r) : Lost s' r gone k := ⟨h.1, (m.map _ hp).trans h.2⟩
theorem check_inP {a : Ac} (h : checkAccess a = 0) : InP a.page := by
  have := check_has h
  unfold hasB at this
  simp at this
  exact this
section
variable {s : Ms} {r : Int} {gone : List Int} {X : Int → Prop}
/-- All pages of a mapping have its entry. -/
theorem entry_over (hw : Wf s r gone X) {p q : Int} {m : Mp} (hp : InP p) (hq : InP q) (hm : mapAt s r p = some m) (ho : over m q = true) : (way s r q).e = (way s r p).e ∧ (way s r q).lev = (way s r p).lev := by
  obtain ⟨d, t, he⟩ := hw.ends p hp
  rw [mapAt_ends hp he] at hm
  split at hm
  · rename_i hl
    injection hm with hm
    obtain ⟨h3, _, hov⟩ := he.map hp hl
    rw [← hm, hov q] at ho
    obtain ⟨hs, hse⟩ := he.same hp hq (of_decide_eq_true ho)
    rw [way_ends hq.1 hq.2 hs, way_ends hp.1 hp.2 he, hse]
    exact ⟨rfl, rfl⟩
  · cases hm
theorem map_page (hw : Wf s r gone X) {p : Int} {m : Mp} (hp : InP p) (hm : mapAt s r p = some m) : InP m.page ∧ over m m.page = true ∧ mapAt s r m.page = some m := by
  obtain ⟨h1, h2⟩ := hw.self hp hm
  have hi := h2.inP
  have ho : over m m.page = true := over_iff.2 ⟨by omega, by have := h2.sp; omega⟩
  exact ⟨hi, ho, Wf.overMap hw hp hi hm ho hw⟩
theorem again_tree (s : Ms) (r : Int) {k : Ck} (hon : k.on = true) : OnTree s r (k.again r) ∧ (k.again r).a = k.a ∧ (k.again r).on = true := by
  unfold Ck.again
  rw [if_pos hon]
  exact ⟨⟨0, by omega, rfl, rfl⟩, rfl, hon⟩
/-- What marks do to a tree. -/
theorem mark_tree (hw : Wf s r gone (fun _ => False)) (hi : s.Inv) {p t : Int} {d : Nat} (hp : InP p) (he : Ends s r p d t) (hl : (eOf s p t (3 - d)).leaf = true) (a : Ac) :
    Wf (putAt s p t d (encW (markE (eOf s p t (3 - d)) a) (3 - d : Nat))) r gone (fun _ => False) ∧ (putAt s p t d (encW (markE (eOf s p t (3 - d)) a) (3 - d : Nat))).Inv ∧
      Marked s (putAt s p t d (encW (markE (eOf s p t (3 - d)) a) (3 - d : Nat))) r ∧ (way (putAt s p t d (encW (markE (eOf s p t (3 - d)) a) (3 - d : Nat))) r p).e = markE (eOf s p t (3 - d)) a := by
  have hef := (enc_dec he.dec).1
  have hef : entFault (eOf s p t (3 - d)) ((3 - d : Nat) : Int) = 0 := hef
  obtain ⟨hf', hl'⟩ := mark_ok a hef hl
  obtain ⟨w1, w2, w3⟩ := leaf_ok hw hi hp he hf' hl'
  obtain ⟨k1, k2, _⟩ := dec_enc hf'
  have hv : stopW (encW (markE (eOf s p t (3 - d)) a) (3 - d : Nat)) (3 - d) := ⟨k1, by rw [k2, hl']; simp⟩
  refine ⟨w1, w2, ⟨rfl, fun _ => rfl, rfl, fun q hq e hle => put_tab hw hp he.le he.tab he.no hv hq e hle, fun q hq => ?_, fun q hq => ?_, fun q hq => ?_, fun q hq => ?_⟩, ?_⟩
  · have := w3 q hq
    split at this
    · unfold mapAt
      rw [this.1, this.2]
      dsimp only
      rw [hl', hl, leafMap_mark a hef hl]
    · exact mapAt_way this
  · have := w3 q hq
    split at this
    · rw [this.1, this.2]
    · rw [this]
  · have := w3 q hq
    split at this
    · rw [this.1, this.2]
      intro _; rfl
    · rw [this]; exact id
  · have := w3 q hq
    split at this
    · rw [this.1, this.2]
      dsimp only
      intro h
      unfold markE
      dsimp only
      rw [h]; rfl
    · rw [this]; exact id
  · have := w3 p hp
    rw [if_pos rfl] at this
    rw [this.1]
end
section
variable {s : Ms} {r : Int} {gone : List Int} {X : Int → Prop}
theorem Wf.perm {g : List Int} (hw : Wf s r gone X) (h : ∀ t, t ∈ g ↔ t ∈ gone) (nd : g.Nodup) : Wf s r g X :=
  ⟨hw.ends, hw.inj, hw.full, fun k => by rw [hw.use k, h], nd, fun t ht => hw.gz t ((h t).1 ht), fun t ht => hw.gt t ((h t).1 ht)⟩
theorem pr_walk (hw : Wf s r gone (fun _ => False)) {p ri : Int} (hf : prC s r p ri = 0) {q : Int} (hq : InP q) : ∀ e, e ≤ 4 → tabD (prS s r p ri) r q e = tabD s r q e := by
  have hr : 0 ≤ ri ∧ ri ≤ 7 := by
    unfold prC at hf
    split at hf
    · cases hf
    · omega
  have hf0 : findC s r p = 0 := by
    unfold prC at hf
    rw [if_neg (by omega)] at hf
    exact hf
  have hp := find_zero hf0
  obtain ⟨d, t, he, hl, hwe, hm, h3, ho⟩ := hw.found hf0
  have hef : entFault (eOf s p t (3 - d)) ((3 - d : Nat) : Int) = 0 := (enc_dec he.dec).1
  have hf' : entFault { eOf s p t (3 - d) with rights := ri } (3 - d : Nat) = 0 := rights_ok hef hl hr.1 hr.2
  have es : prS s r p ri = putAt s p t d (encW { eOf s p t (3 - d) with rights := ri } (3 - d : Nat)) := by
    unfold prS
    rw [if_pos hf, hwe]
    dsimp only
    rw [tabsD_last he.tab]
  obtain ⟨k1, k2, _⟩ := dec_enc hf'
  have hv : stopW (encW { eOf s p t (3 - d) with rights := ri } (3 - d : Nat)) (3 - d) := ⟨k1, by rw [k2]; dsimp only; rw [hl]; simp⟩
  rw [es]
  exact fun e he' => put_tab hw hp he.le he.tab he.no hv hq e he'
end
end Go.Proofs.Ytmfheghbgihdmaa
namespace Go.Proofs.Ytmfheghbgihdmaa
open Go.RowKit
theorem or_nat (W : Nat) (hz : W / 32 % 4 = 0) : W ||| 96 = W + 96 := by
  have hb : W % 32 < 2 ^ 5 := by omega
  have hb7 : W % 32 < 2 ^ 7 := by omega
  have e1 : 2 ^ 7 * (W / 128) + W % 32 = W := by omega
  have e2 : 2 ^ 5 * 3 + W % 32 = 96 + W % 32 := by omega
  have hc : 2 ^ 5 * 3 + W % 32 < 2 ^ 7 := by omega
  have o1 := Nat.two_pow_add_eq_or_of_lt hb7 (W / 128)
  have o2 := Nat.two_pow_add_eq_or_of_lt hb 3
  have o3 := Nat.two_pow_add_eq_or_of_lt hc (W / 128)
  have e3 : 2 ^ 7 * (W / 128) + (2 ^ 5 * 3 + W % 32) = W + 96 := by omega
  rw [e1] at o1
  rw [e3, o2] at o3
  rw [o3]
  conv => lhs; rw [o1]
  rw [Nat.or_assoc, Nat.or_comm (W % 32)]
theorem or_marks (W : Nat) (h : W < 18446744073709551616) (hs : W + 96 < 18446744073709551616) (hz : W / 32 % 4 = 0) : bits .or .u64 (W : Int) 96 = ((W + 96 : Nat) : Int) := by
  show IntKind.u64.wrap ((BitVec.ofInt 64 (W : Int) ||| BitVec.ofInt 64 ((96 : Nat) : Int)).toNat : Int) = _
  rw [BitVec.toNat_or, ofInt64 W h, ofInt64 96 (by decide), or_nat W hz]
  exact wrapU _ hs
theorem enc_or {e : En} {L p : Int} {us : Bool} (hf : entFault e L = 0) (hl : e.leaf = true) (hu : e.used = false) (hd : e.dirty = false) : bits .or .u64 (encW e L) 96 = encW (markE e ⟨p, 1, us⟩) L := by
  have ht : e.there = true := by
    cases h : e.there with
    | true => rfl
    | false => rw [entFault_not hf h] at hl; cases hl
  obtain ⟨hf', hl'⟩ := mark_ok ⟨p, 1, us⟩ hf hl
  have hk := entOk_of hf ht
  have h1 : encW e L = wordE e L := if_pos ⟨hf, ht⟩
  have h2 : encW (markE e ⟨p, 1, us⟩) L = wordE e L + 96 := by
    have : encW (markE e ⟨p, 1, us⟩) L = wordE (markE e ⟨p, 1, us⟩) L := if_pos ⟨hf', ht⟩
    rw [this]
    unfold wordE markE
    dsimp only
    rw [hu, hd]
    simp only [b2i]
    simp
    omega
  rw [h1, h2]
  obtain ⟨_, w0, w1⟩ := wordE_ne hk
  obtain ⟨W, hW⟩ := Int.eq_ofNat_of_zero_le w0
  rw [hW] at w1 ⊢
  have hz : W / 32 % 4 = 0 := by
    have h3 : wordE e L = e.frame * 4096 + e.rights * 2 + 1 + b2i (e.leaf && (L != 0)) 128 := by
      unfold wordE
      rw [hu, hd]
      simp [b2i]
    have hb : b2i (e.leaf && (L != 0)) 128 = 0 ∨ b2i (e.leaf && (L != 0)) 128 = 128 := by unfold b2i; split <;> simp
    rw [hW] at h3
    have := hk.r0; have := hk.r7; have := hk.f0
    rcases hb with hb | hb <;> rw [hb] at h3 <;> omega
  rw [or_marks W (by omega) (by omega) hz]
  omega
/-! ### Counting -/
theorem le_nodup : ∀ (n : Nat) (l : List Nat), l.Nodup → (∀ k, k < n → k ∈ l) → n ≤ l.length
  | 0, _, _, _ => Nat.zero_le _
  | n + 1, l, nd, h => by
    have hm := h n (by omega)
    have h1 := le_nodup n (l.erase n) (nd.erase n) (fun k hk => (List.Nodup.mem_erase_iff nd).2 ⟨by omega, h k (by omega)⟩)
    rw [List.length_erase_of_mem hm] at h1
    have := List.length_pos_of_mem hm
    omega
section
variable {s : Ms} {gone : List Int} {X : Int → Prop}
theorem tabs_nat (hw : Wf s 0 gone X) {t : Int} (h : InT s 0 t) : 0 ≤ t ∧ t < s.n ∧ s.tk t.toNat = true := by
  obtain ⟨p, d, hp, hd, ht⟩ := h
  exact hw.nat hp hd ht
/-- So many frames are of the root's tables, go, or are free. -/
theorem tabs_count (hw : Wf s 0 gone X) (hi : s.Inv) : (allT s 0).length + gone.length + s.frees.length = s.n := by
  obtain ⟨_, _, nd, hm⟩ := list_link hw
  have h0 : ∀ t ∈ allT s 0, 0 ≤ t ∧ t < s.n ∧ s.tk t.toNat = true := fun t ht => tabs_nat hw ((hm t).1 ht)
  have hg : ∀ t ∈ gone, 0 ≤ t ∧ t < s.n ∧ s.tk t.toNat = true := fun t ht => by
    have a := (hw.gz t ht).1
    have b : s.tk t.toNat = true := (hw.use _).2 (.inr (by rw [Int.toNat_of_nonneg a]; exact ht))
    have := hi.tkl _ b
    have := hi.le
    exact ⟨a, by omega, b⟩
  have inj : ∀ l : List Int, l.Nodup → (∀ t ∈ l, 0 ≤ t) → (l.map Int.toNat).Nodup := by
    intro l
    induction l with
    | nil => intro _ _; exact List.nodup_nil
    | cons x l ih =>
      intro nd h
      rw [List.nodup_cons] at nd
      rw [List.map_cons, List.nodup_cons]
      refine ⟨fun hx => ?_, ih nd.2 fun t ht => h t (List.mem_cons_of_mem _ ht)⟩
      obtain ⟨y, hy, he⟩ := List.mem_map.1 hx
      have h1 := h x (List.mem_cons_self ..)
      have h2 := h y (List.mem_cons_of_mem _ hy)
      have : y = x := by omega
      exact nd.1 (this ▸ hy)
  have hnd : ((allT s 0).map Int.toNat ++ (gone.map Int.toNat ++ s.frees)).Nodup := by
    rw [List.nodup_append, List.nodup_append]
    refine ⟨inj _ nd fun t ht => (h0 t ht).1, ⟨inj _ hw.nd fun t ht => (hg t ht).1, Ms.frees_nodup hi, ?_⟩, ?_⟩
    · intro a ha b hb
      obtain ⟨t, ht, rfl⟩ := List.mem_map.1 ha
      rintro rfl
      have := ((Ms.frees_mem hi _).1 hb).2
      rw [(hg t ht).2.2] at this; cases this
    · intro a ha b hb
      obtain ⟨t, ht, rfl⟩ := List.mem_map.1 ha
      rintro rfl
      rcases List.mem_append.1 hb with hb | hb
      · obtain ⟨u, hu, he⟩ := List.mem_map.1 hb
        have h1 := (h0 t ht).1
        have h2 := (hg u hu).1
        have : u = t := by omega
        subst this
        exact hw.gt u hu ((hm u).1 ht)
      · have := ((Ms.frees_mem hi _).1 hb).2
        rw [(h0 t ht).2.2] at this; cases this
  have hall : ∀ k, k ∈ (allT s 0).map Int.toNat ++ (gone.map Int.toNat ++ s.frees) ↔ k < s.n := by
    intro k
    rw [List.mem_append, List.mem_append]
    constructor
    · rintro (h | h | h)
      · obtain ⟨t, ht, rfl⟩ := List.mem_map.1 h
        have := h0 t ht
        omega
      · obtain ⟨t, ht, rfl⟩ := List.mem_map.1 h
        have := hg t ht
        omega
      · exact ((Ms.frees_mem hi _).1 h).1
    · intro hk
      cases ht : s.tk k with
      | false => exact .inr (.inr ((Ms.frees_mem hi _).2 ⟨hk, ht⟩))
      | true =>
        rcases (hw.use k).1 ht with h | h
        · exact .inl (List.mem_map.2 ⟨k, (hm _).2 h, by simp⟩)
        · exact .inr (.inl (List.mem_map.2 ⟨k, h, by simp⟩))
  have h1 := nodup_le s.n _ hnd fun x hx => (hall x).1 hx
  have h2 := le_nodup s.n _ hnd fun k hk => (hall k).2 hk
  rw [List.length_append, List.length_append, List.length_map, List.length_map] at h1 h2
  omega
end
/-! ### The first memory -/
theorem first_eq {n : Nat} (h : 1 ≤ n) : (Ms.new n).takeS = { n := n, tk := fput (fun _ => false) 0 true, wd := fun a _ => if a = 0 then 0 else 0, next := 1, back := [] } := by
  have ht : (Ms.new n).top = some 0 := by
    show (if 0 < n then some 0 else none) = some 0
    rw [if_pos (by omega)]
  unfold Ms.takeS
  rw [ht]
  rfl
theorem first_wf {n : Nat} (h : 1 ≤ n) : Wf (Ms.new n).takeS 0 [] (fun _ => False) := by
  rw [first_eq h]
  generalize hs : ({ n := n, tk := fput (fun _ => false) 0 true, wd := fun a _ => if a = 0 then 0 else 0, next := 1, back := [] } : Ms) = s
  have hz : ∀ t i, wordV s t i = 0 := fun t i => by
    subst hs
    show (if t.toNat = 0 then (0 : Int) else 0) = 0
    split <;> rfl
  have hn : s.n = n := by subst hs; rfl
  have htk : ∀ k : Nat, s.tk k = true ↔ k = 0 := fun k => by
    subst hs
    show fput (fun _ => false) 0 true k = true ↔ k = 0
    unfold fput
    split <;> simp_all
  have hhas : s.has 0 = true := Ms.has_iff.2 ⟨by omega, by omega, (htk _).2 rfl⟩
  have hno : ∀ p d, d ≤ 3 → tabD s 0 p (d + 1) = none := by
    intro p d hd
    cases hh : tabD s 0 p d with
    | none => exact tabD_none_mono hh _ (by omega)
    | some u => exact tabD_none hh (goB_zero (by omega) (hz _ _))
  have h0 : ∀ p d t, d ≤ 3 → tabD s 0 p d = some t → d = 0 ∧ t = 0 := by
    intro p d t hd ht
    cases d with
    | zero => injection ht with ht; exact ⟨rfl, ht.symm⟩
    | succ d => rw [hno p d (by omega)] at ht; cases ht
  refine ⟨fun p hp => ⟨0, 0, by omega, rfl, hhas, ?_, goB_zero (by omega) (hz _ _)⟩, fun p q d e t hp hq hd he h1 h2 => ?_, fun p d t hp hd ht => ?_, fun k => ?_, List.nodup_nil, fun g hg => (by cases hg), fun g hg => (by cases hg)⟩
  · rw [hz]; exact (dec_zero (by omega)).1
  · obtain ⟨rfl, _⟩ := h0 p d t hd h1
    obtain ⟨rfl, _⟩ := h0 q e t he h2
    exact ⟨rfl, div_top hp hq⟩
  · rw [hno p d (by omega)] at ht; cases ht
  · rw [htk]
    constructor
    · rintro rfl
      exact .inl ⟨0, 0, ⟨by omega, by omega⟩, by omega, rfl⟩
    · rintro (⟨p, d, _, hd, ht⟩ | h)
      · have := (h0 p d _ hd ht).2
        omega
      · cases h
theorem first_mem {n : Int} (h : 1 ≤ n) : memS n 1 [] = (Ms.new n.toNat).takeS := by
  unfold memS
  have : min (1 : Int).toNat n.toNat = 1 := by
    have : (1 : Int).toNat = 1 := rfl
    omega
  rw [this]
  rfl
theorem first_lk {n : Nat} (h : 1 ≤ n) : Lk (Ms.new n).takeS 0 [] := by
  have hw := first_wf h
  refine ⟨Bk.Ok.nil, fun q hq => ?_⟩
  have hz : ∀ t i, wordV (Ms.new n).takeS t i = 0 := fun t i => by
    rw [first_eq h]
    show (if t.toNat = 0 then (0 : Int) else 0) = 0
    split <;> rfl
  obtain ⟨d, t, he⟩ := hw.ends q hq
  rw [mapAt_ends hq he, eOf_zero (by omega) (hz _ _)]
  rfl
/-! ### What goes, and is given back -/
def remGive (s : Ms) (p : Int) : Ms := giveL (remS s 0 p) (remG s 0 p)
section
variable {s : Ms} {L : List Mp}
theorem rem_give (hw : Wf s 0 [] (fun _ => False)) (hi : s.Inv) {p : Int} (hf : findC s 0 p = 0) :
    Wf (remGive s p) 0 [] (fun _ => False) ∧ (remGive s p).Inv ∧ (remGive s p).n = s.n ∧ ∀ q, InP q → way (remGive s p) 0 q = way (remS s 0 p) 0 q := by
  obtain ⟨w1, w2, w3, _⟩ := rem_ok hw hi hf
  have hgn : (remG s 0 p).Nodup := by
    have := w1.nd
    rw [List.append_nil] at this
    exact (List.pairwise_reverse.1 this).imp fun h => h.symm
  have hw' : Wf (remS s 0 p) 0 (remG s 0 p) (fun _ => False) := w1.perm (fun t => by simp) hgn
  obtain ⟨g1, g2, _⟩ := giveL_use (remG s 0 p) (remS s 0 p) w2
  exact ⟨hw'.give w2, g1, g2.trans w3, fun q hq => give_way hw' w2 hq⟩
theorem rem_none {p : Int} (hf : findC s 0 p ≠ 0) : remGive s p = s ∧ remG s 0 p = [] ∧ remS s 0 p = s := by
  unfold remGive remS remG
  rw [if_neg hf, if_neg hf]
  exact ⟨rfl, rfl, rfl⟩
theorem lk_give (hw : Wf s 0 [] (fun _ => False)) (hi : s.Inv) (hL : Lk s 0 L) {p : Int} (hf : findC s 0 p = 0) : Lk (remGive s p) 0 (Bk.dropL L p) := by
  have h := lk_rem hw hi hL hf
  obtain ⟨_, _, _, w4⟩ := rem_give hw hi hf
  exact ⟨h.ok, fun q hq => (h.same q hq).trans (mapAt_way (w4 q hq)).symm⟩
theorem drop_head {x : Mp} (h : Bk.Ok (x :: L)) : Bk.dropL (x :: L) x.page = L ∧ Bk.dropC (x :: L) x.page = 0 := by
  have hx := h.chk x (List.mem_cons_self ..)
  have hp := hx.inP
  have hB : hasB x.page = true := by unfold hasB; rw [decide_eq_true hp.1, decide_eq_true hp.2]; rfl
  have ho : over x x.page = true := over_iff.2 ⟨by omega, by have := hx.sp; omega⟩
  unfold Bk.dropL Bk.dropC
  rw [if_pos hB, if_pos hB]
  constructor
  · unfold Bk.del
    rw [List.filter_cons, ho]
    simp only [Bool.not_true, Bool.false_eq_true, if_false]
    refine List.filter_eq_self.2 fun y hy => ?_
    have h1 := (List.pairwise_cons.1 h.up).1 y hy
    have := hx.sp
    have : over y x.page = false := over_false.2 (.inl (by omega))
    rw [this]; rfl
  · unfold Bk.find
    rw [List.find?_cons_of_pos (by exact ho)]
    rfl
end
/-! ### What is marked -/
structure MkAt (s : Ms) (p : Int) : Prop where
  inP : InP p
  map : (mapAt s 0 p).isSome = true
  used : (way s 0 p).e.used = true
  dirty : (way s 0 p).e.dirty = true
structure TK (s : Ms) (mk : Int) : Prop where
  ok : s.Ok
  wf : Wf s 0 [] (fun _ => False)
  at_ : mk = -1 ∨ MkAt s mk
section
variable {s s' : Ms} {mk p : Int}
theorem MkAt.way (h : MkAt s p) (e : Go.Proofs.Ytmfheghbgihdmaa.way s' 0 p = Go.Proofs.Ytmfheghbgihdmaa.way s 0 p) : MkAt s' p := ⟨h.inP, by rw [mapAt_way e]; exact h.map, by rw [e]; exact h.used, by rw [e]; exact h.dirty⟩
theorem MkAt.ne (h : MkAt s p) : mapAt s 0 p ≠ none := fun e => by have := h.map; rw [e] at this; cases this
theorem MkAt.found (h : MkAt s p) (hw : Wf s 0 [] (fun _ => False)) : findC s 0 p = 0 ∧ (findE s 0 p).used = true ∧ (findE s 0 p).dirty = true := by
  have hf := (hw.find h.inP).1
  rw [if_pos h.map] at hf
  unfold findE
  rw [if_pos hf]
  exact ⟨hf, h.used, h.dirty⟩
theorem TK.first {n : Int} (h : 1 ≤ n) (h1 : n ≤ 128) : TK (memS n 1 []) (-1) := ⟨memS_ok (by omega) h1 (fun x hx => by cases hx), by rw [first_mem h]; exact first_wf (by omega), .inl rfl⟩
theorem TK.ins (h : TK s mk) (x : Mp) : TK (insS s 0 x) mk := by
  obtain ⟨w1, w2, w3, w4⟩ := ins_ok h.wf h.ok.inv h.ok.small x
  refine ⟨⟨w2, by rw [w3]; exact h.ok.small⟩, w1, h.at_.imp id fun m => m.way ((w4 _ m.inP).2.1 m.ne)⟩
theorem TK.rem (h : TK s mk) {p : Int} (hf : findC s 0 p = 0) {mk' : Int} (hm : mk' = -1 ∨ (mk' = mk ∧ over (findM s 0 p) mk = false)) : TK (remGive s p) mk' := by
  obtain ⟨w1, w2, w3, w4⟩ := rem_give h.wf h.ok.inv hf
  obtain ⟨_, _, _, _, _, v6⟩ := rem_ok h.wf h.ok.inv hf
  refine ⟨⟨w2, by rw [w3]; exact h.ok.small⟩, w1, ?_⟩
  rcases hm with hm | ⟨rfl, ho⟩
  · exact .inl hm
  · exact h.at_.imp id fun m => m.way ((w4 _ m.inP).trans ((v6 _ m.inP).2 ho m.ne))
theorem TK.pr (h : TK s mk) (p ri : Int) : TK (prS s 0 p ri) mk := by
  by_cases hf : prC s 0 p ri = 0
  · obtain ⟨w1, w2, w3, _, _, w6⟩ := pr_ok h.wf h.ok.inv hf
    refine ⟨⟨w2, by rw [w3]; exact h.ok.small⟩, w1, h.at_.imp id fun m => ?_⟩
    by_cases ho : over (findM s 0 p) mk = true
    · obtain ⟨_, a2, a3⟩ := (w6 _ m.inP).1 ho
      exact ⟨m.inP, by rw [a2]; rfl, by rw [a3]; exact m.used, by rw [a3]; exact m.dirty⟩
    · exact m.way ((w6 _ m.inP).2 (by simpa using ho))
  · have e : prS s 0 p ri = s := by unfold prS; rw [if_neg hf]
    rw [e]; exact h
/-- A mapping is new: its leaf is marked. -/
theorem TK.mark (h : TK s mk) {x : Mp} (hc : insC s 0 x = 0) : ∃ (d : Nat) (t : Int), d ≤ 3 ∧ (way (insS s 0 x) 0 x.page).code = 0 ∧ (way (insS s 0 x) 0 x.page).tabs.length = d + 1 ∧ (way (insS s 0 x) 0 x.page).tabs[d]? = some t ∧
    (insS s 0 x).hasW t (index x.page (3 - (d : Int))) = true ∧ InP x.page ∧
    TK (storeS (insS s 0 x) t (index x.page (3 - (d : Int))) (bits .or .u64 (loadV (insS s 0 x) t (index x.page (3 - (d : Int)))) 96)) x.page := by
  obtain ⟨w1, w2, w3, w4⟩ := ins_ok h.wf h.ok.inv h.ok.small x
  have hk : check x = 0 := by
    unfold insC at hc
    by_cases hk : check x = 0
    · exact hk
    · rw [if_pos hk] at hc; exact absurd hc hk
  have hx := mapOk_of hk
  have hp := hx.inP
  have ho : over x x.page = true := over_iff.2 ⟨by omega, by have := hx.sp; omega⟩
  have he := ((w4 _ hp).2.2 ⟨hc, ho⟩).2
  have hmap := (w4 _ hp).1
  rw [if_pos ⟨hc, ho⟩] at hmap
  obtain ⟨d, t, hE⟩ := w1.ends _ hp
  have hle := hE.le
  have hwe := way_ends hp.1 hp.2 hE
  rw [hwe] at he
  have he : eOf (insS s 0 x) x.page t (3 - d) = leafE x := he
  have hl : (eOf (insS s 0 x) x.page t (3 - d)).leaf = true := by rw [he]; rfl
  have hi3 : (3 - (d : Int)) = ((3 - d : Nat) : Int) := by omega
  refine ⟨d, t, ?_⟩
  rw [hi3]
  have hix := index_range hp (show 3 - d ≤ 3 by omega)
  have hhas := hE.use
  have hW : (insS s 0 x).hasW t (index x.page ((3 - d : Nat) : Int)) = true := by
    unfold Ms.hasW
    rw [hhas, decide_eq_true hix.1, decide_eq_true hix.2]; rfl
  have hef : entFault (eOf (insS s 0 x) x.page t (3 - d)) ((3 - d : Nat) : Int) = 0 := (enc_dec hE.dec).1
  have hld : loadV (insS s 0 x) t (index x.page ((3 - d : Nat) : Int)) = encW (eOf (insS s 0 x) x.page t (3 - d)) ((3 - d : Nat) : Int) := by
    unfold loadV
    rw [if_pos hW]
    exact (enc_dec hE.dec).2.symm
  have hor : bits .or .u64 (loadV (insS s 0 x) t (index x.page ((3 - d : Nat) : Int))) 96 = encW (markE (eOf (insS s 0 x) x.page t (3 - d)) ⟨x.page, 1, false⟩) ((3 - d : Nat) : Int) := by
    rw [hld]
    exact enc_or hef hl (by rw [he]; rfl) (by rw [he]; rfl)
  obtain ⟨m1, m2, m3, m4⟩ := mark_tree w1 w2 hp hE hl ⟨x.page, 1, false⟩
  refine ⟨hle, by rw [hwe], by rw [hwe]; exact tabsD_len _ _ _ _, ?_, hW, hp, ?_⟩
  · rw [hwe]
    show (tabsD _ _ _ _)[d]? = _
    unfold tabsD
    rw [List.getElem?_map, List.getElem?_range (by omega)]
    simp [hE.tab]
  · have es : storeS (insS s 0 x) t (index x.page ((3 - d : Nat) : Int)) (bits .or .u64 (loadV (insS s 0 x) t (index x.page ((3 - d : Nat) : Int))) 96) = putAt (insS s 0 x) x.page t d (encW (markE (eOf (insS s 0 x) x.page t (3 - d)) ⟨x.page, 1, false⟩) ((3 - d : Nat) : Int)) := by
      unfold storeS
      rw [if_pos hW, hor]
    rw [es]
    refine ⟨⟨m2, ?_⟩, m1, .inr ⟨hp, ?_, ?_, ?_⟩⟩
    · rw [m3.n, w3]; exact h.ok.small
    · rw [m3.map _ hp, hmap]; rfl
    · rw [m4]; rfl
    · rw [m4, he]; rfl
end
end Go.Proofs.Ytmfheghbgihdmaa
