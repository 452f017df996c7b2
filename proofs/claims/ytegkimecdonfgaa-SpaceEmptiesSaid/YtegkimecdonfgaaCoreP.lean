/- Contracts of package core, against the plain lines and the plain walk: New, Busy, Access, Told. -/
import Derived.Test.YtegkimecdonfgaaTblM3
import Derived.Test.YtegkimecdonfgaaMpRow
import Derived.Test.YtegkimecdonfgaaWkr4
import Derived.Test.YtegkimecdonfgaaWkr2
import Derived.Test.YtegkimecdonfgaaWkFind
import Derived.Test.YtegkimecdonfgaaFrames2
import Derived.Test.YtegkimecdonfgaaEntry2
import Derived.BigQuiet
import Derived.Deep.RegionHeld3
import Derived.Deep.DeepCutAuto
import Derived.Test.YtegkimecdonfgaaWalkM2
namespace Go.Proofs.Ytegkimecdonfgaa
open Go.RowKit
set_option maxRecDepth 100000
def pcAt (b : Nat) (l : List Ln) (root : Int) (k : Ck) : HProp := ex fun t => ex fun v => blk b #[.pointer (some ⟨t, 0, none⟩), .pointer (some ⟨v, 0, none⟩)] 155 * (tlbAt t l * walkerAt v root k)
theorem pcAt_open {b : Nat} {l : List Ln} {root : Int} {k : Ck} {R : HProp} {w : World} (h : Has w (pcAt b l root k * R)) :
    ∃ t v, Has w (blk b #[.pointer (some ⟨t, 0, none⟩), .pointer (some ⟨v, 0, none⟩)] 155 * (tlbAt t l * (walkerAt v root k * R))) := by
  unfold pcAt at h
  obtain ⟨t, h⟩ := has_ex_star.1 h
  obtain ⟨v, h⟩ := has_ex_star.1 h
  exact ⟨t, v, h.eq (by ac_rfl)⟩
theorem pcAt_shut {b t v : Nat} {l : List Ln} {root : Int} {k : Ck} {R : HProp} {w : World} (h : Has w (blk b #[.pointer (some ⟨t, 0, none⟩), .pointer (some ⟨v, 0, none⟩)] 155 * (tlbAt t l * (walkerAt v root k * R)))) : Has w (pcAt b l root k * R) := by
  unfold pcAt
  exact has_ex_star.2 ⟨t, has_ex_star.2 ⟨v, h.eq (by ac_rfl)⟩⟩
theorem newC (root : Int) (R : HProp) (w : World) (h : Has w R) : Calls Try.prog 86 #[(Value.int .i64) root] w fun e w' => ∃ b, Res (.pointer (some ⟨b, 0, none⟩)) (pcAt b [] root Ck.zero * R) w e w' := by
  go_enter Try.func86, Try.ntmps86
  go_wp2_with fail
  refine (newT _ _ h).mono ?_; rintro e w2 ⟨t, rfl, h2, x2⟩
  go_wp2_with fail
  refine (newW root _ _ h2).mono ?_; rintro e w3 ⟨v, rfl, h3, x3⟩
  have h4 := pcAt_shut ((h3.new #[.pointer (some ⟨t, 0, none⟩), .pointer (some ⟨v, 0, none⟩)] 155).eq (show _ = blk w3.heap.size #[.pointer (some ⟨t, 0, none⟩), .pointer (some ⟨v, 0, none⟩)] 155 * (tlbAt t [] * (walkerAt v root Ck.zero * R)) by ac_rfl))
  have x4 := (x2.trans x3).alloc (.cells #[.pointer (some ⟨t, 0, none⟩), .pointer (some ⟨v, 0, none⟩)] 155)
  go_wp2_with fail
  go_ret
  exact ⟨_, rfl, h4, x4⟩
theorem busyC (b : Nat) (l : List Ln) (root : Int) (k : Ck) (R : HProp) (w : World) (h : Has w (pcAt b l root k * R)) : Calls Try.prog 94 #[.pointer (some ⟨b, 0, none⟩)] w (Same (Value.bool k.on) w) := by
  obtain ⟨t, v, h⟩ := pcAt_open h
  obtain ⟨c0, c1⟩ := h.cells2
  have cl := h.lt
  have HO := Lib.hid (onW v root k _ _ h.right.p2)
  clear h
  go_enter Try.func94, Try.ntmps94
  go_wp2_with (refine HO.out.mono ?_; rintro e w2 ⟨rfl, rfl⟩)
  go_ret
  exact ⟨rfl, rfl⟩
set_option maxHeartbeats 2000000 in
theorem toldC (b : Nat) (l : List Ln) (root : Int) (k : Ck) (m : Mp) (hl : Tl.Ok l) (hm : i64 m.page) (R : HProp) (w : World) (h : Has w (pcAt b l root k * R)) :
    Calls Try.prog 119 #[.pointer (some ⟨b, 0, none⟩), .agg #[(Value.int .i64) m.page, (Value.int .i64) m.size, (Value.int .i64) m.frame, (Value.int .i64) m.rights]] w (Res (.tuple #[]) (pcAt b (Tl.drop l m) root (k.again root) * R) w) := by
  obtain ⟨t, v, h⟩ := pcAt_open h
  have h1 : Has _ (tlbAt t l * (blk b #[.pointer (some ⟨t, 0, none⟩), .pointer (some ⟨v, 0, none⟩)] 155 * (blk w.heap.size #[(Value.int .i64) m.page, (Value.int .i64) m.size, (Value.int .i64) m.frame, (Value.int .i64) m.rights] 24 * (walkerAt v root k * R)))) := (h.new #[(Value.int .i64) m.page, (Value.int .i64) m.size, (Value.int .i64) m.frame, (Value.int .i64) m.rights] 24).eq (by ac_rfl)
  have x1 := (Ext.refl w).alloc (.cells #[(Value.int .i64) m.page, (Value.int .i64) m.size, (Value.int .i64) m.frame, (Value.int .i64) m.rights] 24)
  have HD := Lib.hid (fun R X h => dropT t l m R X hl.lok hm h)
  have HA := Lib.hid (fun R X h => againW v root k R X h)
  clear h hl hm
  go_enter Try.func119, Try.ntmps119
  go_upto_region 1 with fail
  generalize w.alloc (.cells #[(Value.int .i64) m.page, (Value.int .i64) m.size, (Value.int .i64) m.frame, (Value.int .i64) m.rights] 24) = w1 at *
  generalize w.heap.size = X at *
  obtain ⟨c0, c1⟩ := h1.right.cells2
  have cl := h1.right.lt
  obtain ⟨m0, m1, m2, m3⟩ := h1.right.right.cells4
  have ml := h1.right.right.lt
  have HK := Lib.hid (fun (w' : World) (P Q : HProp) (h : Has w' (P * (blk b #[.pointer (some ⟨t, 0, none⟩), .pointer (some ⟨v, 0, none⟩)] 155 * (blk X #[(Value.int .i64) m.page, (Value.int .i64) m.size, (Value.int .i64) m.frame, (Value.int .i64) m.rights] 24 * Q)))) => (by
    obtain ⟨b0, _⟩ := h.right.cells2
    obtain ⟨m0, m1, m2, m3⟩ := h.right.right.cells4
    exact ⟨b0, m0, m1, m2, m3⟩ : w'.cell? ⟨b, 0, none⟩ = some (.pointer (some ⟨t, 0, none⟩)) ∧ w'.cell? ⟨X, 0, none⟩ = some ((Value.int .i64) m.page) ∧ w'.cell? ⟨X, 1, none⟩ = some ((Value.int .i64) m.size) ∧ w'.cell? ⟨X, 2, none⟩ = some ((Value.int .i64) m.frame) ∧ w'.cell? ⟨X, 3, none⟩ = some ((Value.int .i64) m.rights)))
  have h2 := h1.drew
  have x2 := x1.drew
  go_region_held3 (fun w' => w'.cell? ⟨b, 0, none⟩ = some (.pointer (some ⟨t, 0, none⟩)) ∧ w'.cell? ⟨X, 0, none⟩ = some ((Value.int .i64) m.page) ∧ w'.cell? ⟨X, 1, none⟩ = some ((Value.int .i64) m.size) ∧ w'.cell? ⟨X, 2, none⟩ = some ((Value.int .i64) m.frame) ∧ w'.cell? ⟨X, 3, none⟩ = some ((Value.int .i64) m.rights)) (first | (with_reducible exact HK.out _ _ _ h2) | (with_reducible exact HK.out _ _ _ h3) | go_keep) (first | (go_at_call 138; (with_reducible refine (HD.out _ _ h2).mono ?_); rintro e w3 ⟨rfl, h3, x3⟩))
  have x4 := x2.trans x3
  clear h1 h2 x1 x2 x3 c0 c1 cl m0 m1 m2 m3 ml HK HD
  obtain ⟨c0, c1⟩ := h3.right.cells2
  have cl := h3.right.lt
  have h4 : Has w3 (walkerAt v root k * (tlbAt t (Tl.drop l m) * (blk b #[.pointer (some ⟨t, 0, none⟩), .pointer (some ⟨v, 0, none⟩)] 155 * (blk X #[(Value.int .i64) m.page, (Value.int .i64) m.size, (Value.int .i64) m.frame, (Value.int .i64) m.rights] 24 * R)))) := h3.eq (by ac_rfl)
  go_wp2_with fail
  refine (HA.out _ _ h4).mono ?_; rintro e w5 ⟨rfl, h5, x5⟩
  have h6 := pcAt_shut (h5.eq (show _ = blk b #[.pointer (some ⟨t, 0, none⟩), .pointer (some ⟨v, 0, none⟩)] 155 * (tlbAt t (Tl.drop l m) * (walkerAt v root (k.again root) * (blk X #[(Value.int .i64) m.page, (Value.int .i64) m.size, (Value.int .i64) m.frame, (Value.int .i64) m.rights] 24 * R))) by ac_rfl))
  go_wp2_with fail
  exact bodyPost_ret (v := .tuple #[]) (by simp [results, Try.results119]) rfl ⟨rfl, h6.p2.right, x4.trans x5⟩
end Go.Proofs.Ytegkimecdonfgaa
namespace Go.Proofs.Ytegkimecdonfgaa
open Go.RowKit
set_option maxRecDepth 100000
set_option maxHeartbeats 4000000 in
theorem stepPC' (b f : Nat) (l : List Ln) (root : Int) (k : Ck) (s : Ms) (fin d : Bool) (af afr ari p0 p1 p2 p3 code : Int) (k' : Ck) (s' : Ms) (L : List Ln) (hp : Hid (stepC s root k = ⟨k', s', ⟨fin, ⟨af, afr, ari⟩, ⟨⟨p0, p1, p2, p3⟩, d⟩⟩, code⟩)) (HL : Hid (L = if fin = true ∧ af = 0 then Tl.put l ⟨⟨p0, p1, p2, p3⟩, d⟩ else l)) (hl : Tl.Ok l) (hs : s.Ok) (hk : k.Ok) (R : HProp) (W : World) (h : Has W (pcAt b l root k * (framesAt f s * R))) :
    Calls Try.prog 91 #[.pointer (some ⟨b, 0, none⟩), .pointer (some ⟨f, 0, none⟩)] W
      (Res (.tuple #[.agg #[(Value.int .i64) af, (Value.int .i64) afr, (Value.int .i64) ari], Value.bool fin, (Value.int .i64) code]) (pcAt b L root k' * (framesAt f s' * R)) W) := by
  have hp0 : i64 p0 := by have := stepC_page s root k; rw [hp.out] at this; exact this
  have hbad : code ≠ 0 → fin = false ∧ af = 0 ∧ afr = 0 ∧ ari = 0 := fun hc => by
    have := stepC_bad (s := s) (root := root) (c := k) (by rw [hp.out]; exact hc)
    rw [hp.out] at this
    injection this with h1 h2 h3
    injection h2 with h4 h5 h6
    exact ⟨h1, h4, h5, h6⟩
  obtain ⟨t, v, h⟩ := pcAt_open h
  have HS := Lib.hid (fun R X h => stepW v f root k s hs hk R X h)
  rw [hp.out] at HS
  dsimp only [RsV] at HS
  have h1 : Has _ (walkerAt v root k * (framesAt f s * (blk b #[.pointer (some ⟨t, 0, none⟩), .pointer (some ⟨v, 0, none⟩)] 155 * (tlbAt t l * (blk W.heap.size #[(Value.int .i64) 0, (Value.int .i64) 0, (Value.int .i64) 0] 87 * R))))) := (h.new #[(Value.int .i64) 0, (Value.int .i64) 0, (Value.int .i64) 0] 87).eq (by ac_rfl)
  have x1 := (Ext.refl W).alloc (.cells #[(Value.int .i64) 0, (Value.int .i64) 0, (Value.int .i64) 0] 87)
  clear h hs hk hp
  go_enter Try.func91, Try.ntmps91
  go_upto_region 1 with fail
  generalize W.alloc (.cells #[(Value.int .i64) 0, (Value.int .i64) 0, (Value.int .i64) 0] 87) = W1 at *
  generalize W.heap.size = X0 at *
  obtain ⟨c0, c1⟩ := h1.right.right.cells2
  have cl := h1.right.right.lt
  go_wp2_with fail
  refine (HS.out _ _ h1).mono ?_; rintro e w3 ⟨rfl, h3, x3⟩
  have h4 : Has _ (blk w3.heap.size #[Value.bool fin, (Value.int .i64) af, (Value.int .i64) afr, (Value.int .i64) ari, (Value.int .i64) p0, (Value.int .i64) p1, (Value.int .i64) p2, (Value.int .i64) p3, Value.bool d] 180 * (blk X0 #[(Value.int .i64) 0, (Value.int .i64) 0, (Value.int .i64) 0] 87 * (blk b #[.pointer (some ⟨t, 0, none⟩), .pointer (some ⟨v, 0, none⟩)] 155 * (tlbAt t l * (walkerAt v root k' * (framesAt f s' * R)))))) := (h3.new #[Value.bool fin, (Value.int .i64) af, (Value.int .i64) afr, (Value.int .i64) ari, (Value.int .i64) p0, (Value.int .i64) p1, (Value.int .i64) p2, (Value.int .i64) p3, Value.bool d] 180).eq (by ac_rfl)
  have x4 := (x1.trans x3).alloc (.cells #[Value.bool fin, (Value.int .i64) af, (Value.int .i64) afr, (Value.int .i64) ari, (Value.int .i64) p0, (Value.int .i64) p1, (Value.int .i64) p2, (Value.int .i64) p3, Value.bool d] 180)
  clear h1 x1 h3 x3 HS c0 c1 cl
  go_upto_region 2 with fail
  generalize w3.alloc (.cells #[Value.bool fin, (Value.int .i64) af, (Value.int .i64) afr, (Value.int .i64) ari, (Value.int .i64) p0, (Value.int .i64) p1, (Value.int .i64) p2, (Value.int .i64) p3, Value.bool d] 180) = w4 at *
  generalize w3.heap.size = V at *
  obtain ⟨v0, v1, v2, v3, v4, v5, v6, v7, v8⟩ := h4.cells9
  have vl := h4.lt
  obtain ⟨r0, r1, r2⟩ := h4.right.cells3
  obtain ⟨g0, g1, g2⟩ := h4.right.frees3
  have rl := h4.right.lt
  obtain ⟨c0, c1⟩ := h4.right.right.cells2
  have cl := h4.right.right.lt
  by_cases hc : code = 0
  · subst hc
    clear hbad
    by_cases hcond : fin = true ∧ af = 0
    · have HL' := HL.out
      rw [if_pos hcond] at HL'
      clear HL
      obtain ⟨rfl, rfl⟩ := hcond
      have HP := Lib.hid (fun R X h => putT t l ⟨⟨p0, p1, p2, p3⟩, d⟩ R X hl hp0 h)
      dsimp only at HP
      rw [← HL'] at HP
      clear hp0 hl HL'
      generalize decide (check ⟨p0, p1, p2, p3⟩ = 0) = okp at *
      have h5 : Has w4.drew (tlbAt t l * (blk V #[Value.bool true, (Value.int .i64) 0, (Value.int .i64) afr, (Value.int .i64) ari, (Value.int .i64) p0, (Value.int .i64) p1, (Value.int .i64) p2, (Value.int .i64) p3, Value.bool d] 180 * (blk b #[.pointer (some ⟨t, 0, none⟩), .pointer (some ⟨v, 0, none⟩)] 155 * (blk X0 #[(Value.int .i64) 0, (Value.int .i64) 0, (Value.int .i64) 0] 87 * (walkerAt v root k' * (framesAt f s' * R)))))) := h4.drew.eq (by ac_rfl)
      have x5 := x4.drew
      have HK := Lib.hid (fun (w' : World) (P Q : HProp) (h : Has w' (P * (blk V #[Value.bool true, (Value.int .i64) 0, (Value.int .i64) afr, (Value.int .i64) ari, (Value.int .i64) p0, (Value.int .i64) p1, (Value.int .i64) p2, (Value.int .i64) p3, Value.bool d] 180 * (blk b #[.pointer (some ⟨t, 0, none⟩), .pointer (some ⟨v, 0, none⟩)] 155 * Q)))) => (by
        obtain ⟨_, _, _, _, m4, m5, m6, m7, m8⟩ := h.right.cells9
        obtain ⟨b0, _⟩ := h.right.right.cells2
        exact ⟨b0, m4, m5, m6, m7, m8⟩ : w'.cell? ⟨b, 0, none⟩ = some (.pointer (some ⟨t, 0, none⟩)) ∧ w'.cell? ⟨V, 4, none⟩ = some ((Value.int .i64) p0) ∧ w'.cell? ⟨V, 5, none⟩ = some ((Value.int .i64) p1) ∧ w'.cell? ⟨V, 6, none⟩ = some ((Value.int .i64) p2) ∧ w'.cell? ⟨V, 7, none⟩ = some ((Value.int .i64) p3) ∧ w'.cell? ⟨V, 8, none⟩ = some (Value.bool d)))
      go_upto_region 5 with fail
      go_region_held3 (fun w' => w'.cell? ⟨b, 0, none⟩ = some (.pointer (some ⟨t, 0, none⟩)) ∧ w'.cell? ⟨V, 4, none⟩ = some ((Value.int .i64) p0) ∧ w'.cell? ⟨V, 5, none⟩ = some ((Value.int .i64) p1) ∧ w'.cell? ⟨V, 6, none⟩ = some ((Value.int .i64) p2) ∧ w'.cell? ⟨V, 7, none⟩ = some ((Value.int .i64) p3) ∧ w'.cell? ⟨V, 8, none⟩ = some (Value.bool d)) (first | (with_reducible exact HK.out _ _ _ h5) | (with_reducible exact HK.out _ _ _ h6) | go_keep) (first | (go_at_call 117; (with_reducible refine (HP.out _ _ h5).mono ?_); rintro e w6 ⟨rfl, h6, x6⟩))
      have x7 := x5.trans x6
      clear h4 h5 x4 x5 x6 HP HK v0 v1 v2 v3 v4 v5 v6 v7 v8 vl r0 r1 r2 g0 g1 g2 rl c0 c1 cl
      have h7 : Has w6 (blk X0 #[(Value.int .i64) 0, (Value.int .i64) 0, (Value.int .i64) 0] 87 * (blk V #[Value.bool true, (Value.int .i64) 0, (Value.int .i64) afr, (Value.int .i64) ari, (Value.int .i64) p0, (Value.int .i64) p1, (Value.int .i64) p2, (Value.int .i64) p3, Value.bool d] 180 * (blk b #[.pointer (some ⟨t, 0, none⟩), .pointer (some ⟨v, 0, none⟩)] 155 * (tlbAt t L * (walkerAt v root k' * (framesAt f s' * R)))))) := h6.eq (by ac_rfl)
      clear h6
      obtain ⟨v0, v1, v2, v3, v4, v5, v6, v7, v8⟩ := h7.right.cells9
      have vl := h7.right.lt
      have vn := h7.ne
      have vn' := vn.symm
      obtain ⟨r0, r1, r2⟩ := h7.cells3
      obtain ⟨g0, g1, g2⟩ := h7.frees3
      have rl := h7.lt
      go_upto_region 6 with fail
      go_region
      all_goals
        go_wp2_with fail
        refine ret_via (fun wz => Has wz (blk X0 #[(Value.int .i64) 0, (Value.int .i64) afr, (Value.int .i64) ari] 87 * (blk V #[Value.bool true, (Value.int .i64) 0, (Value.int .i64) afr, (Value.int .i64) ari, (Value.int .i64) p0, (Value.int .i64) p1, (Value.int .i64) p2, (Value.int .i64) p3, Value.bool d] 180 * (blk b #[.pointer (some ⟨t, 0, none⟩), .pointer (some ⟨v, 0, none⟩)] 155 * (tlbAt t L * (walkerAt v root k' * (framesAt f s' * R)))))) ∧ Ext W wz) ⟨by first | exact (h7.set3 _ _ _).drew | exact h7.drew.set3 _ _ _, by (repeat (first | with_reducible assumption | with_reducible exact Ext.refl _ | with_reducible refine Ext.set ?_ _ _ | with_reducible refine Ext.alloc ?_ _ | with_reducible refine Ext.drew ?_ | with_reducible refine Ext.drewN ?_ _ | assumption | exact Ext.refl _ | refine Ext.alloc ?_ _ | refine Ext.set ?_ _ _ | refine Ext.drew ?_ | refine Ext.drewN ?_ _ | refine Ext.below ?_ (by assumption) | refine Ext.trans ?_ (by assumption)))⟩ ?_
        rintro wz ⟨hz, xz⟩
        exact bodyPost_ret (results_ctt Try.results91 rfl rfl rfl (load_answer hz)) rfl ⟨rfl, pcAt_shut hz.right.right, xz⟩
    · have HL' := HL.out
      rw [if_neg hcond] at HL'
      clear HL
      subst HL'
      have h7 := h4.p2
      have vn := h7.ne
      have vn' := vn.symm
      go_upto_region 4 with fail
      go_cut [29] from 22 to 29 (fun s29 wx => s29 = Value.bool false ∧ wx = w4)
      case first =>
        cases fin with
        | false =>
          go_wp2_with fail
          go_meet
          case rel => exact ⟨rfl, rfl⟩
        | true =>
          have ha : (af == 0) = false := by simpa using hcond
          clear hcond
          go_wp2_with fail
          go_meet
          case rel => exact ⟨rfl, rfl⟩
      case rest =>
        obtain ⟨rfl, rfl⟩ := hcut
        go_upto_region 6 with fail
        go_region
        all_goals
          go_wp2_with fail
          refine ret_via (fun wz => Has wz (blk X0 #[(Value.int .i64) af, (Value.int .i64) afr, (Value.int .i64) ari] 87 * (blk V #[Value.bool fin, (Value.int .i64) af, (Value.int .i64) afr, (Value.int .i64) ari, (Value.int .i64) p0, (Value.int .i64) p1, (Value.int .i64) p2, (Value.int .i64) p3, Value.bool d] 180 * (blk b #[.pointer (some ⟨t, 0, none⟩), .pointer (some ⟨v, 0, none⟩)] 155 * (tlbAt t L * (walkerAt v root k' * (framesAt f s' * R)))))) ∧ Ext W wz) ⟨by first | exact (h7.set3 _ _ _).drew | exact h7.drew.set3 _ _ _, by (repeat (first | with_reducible assumption | with_reducible exact Ext.refl _ | with_reducible refine Ext.set ?_ _ _ | with_reducible refine Ext.alloc ?_ _ | with_reducible refine Ext.drew ?_ | with_reducible refine Ext.drewN ?_ _ | assumption | exact Ext.refl _ | refine Ext.alloc ?_ _ | refine Ext.set ?_ _ _ | refine Ext.drew ?_ | refine Ext.drewN ?_ _ | refine Ext.below ?_ (by assumption) | refine Ext.trans ?_ (by assumption)))⟩ ?_
          rintro wz ⟨hz, xz⟩
          exact bodyPost_ret (results_ctt Try.results91 rfl rfl rfl (load_answer hz)) rfl ⟨rfl, pcAt_shut hz.right.right, xz⟩
  · obtain ⟨rfl, rfl, rfl, rfl⟩ := hbad hc
    have hn : (code != 0) = true := by simpa using hc
    have HL' := HL.out
    rw [if_neg (by simp)] at HL'
    clear HL hc
    subst HL'
    go_wp2_with fail
    refine ret_via (fun wz => Has wz (blk X0 #[(Value.int .i64) 0, (Value.int .i64) 0, (Value.int .i64) 0] 87 * (blk V #[Value.bool false, (Value.int .i64) 0, (Value.int .i64) 0, (Value.int .i64) 0, (Value.int .i64) p0, (Value.int .i64) p1, (Value.int .i64) p2, (Value.int .i64) p3, Value.bool d] 180 * (blk b #[.pointer (some ⟨t, 0, none⟩), .pointer (some ⟨v, 0, none⟩)] 155 * (tlbAt t L * (walkerAt v root k' * (framesAt f s' * R)))))) ∧ Ext W wz) ⟨h4.p2.set3 _ _ _, by (repeat (first | with_reducible assumption | with_reducible exact Ext.refl _ | with_reducible refine Ext.set ?_ _ _ | with_reducible refine Ext.alloc ?_ _ | with_reducible refine Ext.drew ?_ | with_reducible refine Ext.drewN ?_ _ | assumption | exact Ext.refl _ | refine Ext.alloc ?_ _ | refine Ext.set ?_ _ _ | refine Ext.drew ?_ | refine Ext.drewN ?_ _ | refine Ext.below ?_ (by assumption) | refine Ext.trans ?_ (by assumption)))⟩ ?_
    rintro wz ⟨hz, xz⟩
    exact bodyPost_ret (results_ctt Try.results91 rfl rfl rfl (load_answer hz)) rfl ⟨rfl, pcAt_shut hz.right.right, xz⟩
theorem stepPC (b f : Nat) (l : List Ln) (root : Int) (k : Ck) (s : Ms) (hl : Tl.Ok l) (hs : s.Ok) (hk : k.Ok) (R : HProp) (W : World) (h : Has W (pcAt b l root k * (framesAt f s * R))) :
    Calls Try.prog 91 #[.pointer (some ⟨b, 0, none⟩), .pointer (some ⟨f, 0, none⟩)] W
      (Res (.tuple #[.agg #[(Value.int .i64) (stepC s root k).r.an.fin, (Value.int .i64) (stepC s root k).r.an.frame, (Value.int .i64) (stepC s root k).r.an.rights], Value.bool (stepC s root k).r.fin, (Value.int .i64) (stepC s root k).code]) (pcAt b (keepL l (stepC s root k).r) root (stepC s root k).c * (framesAt f (stepC s root k).s * R)) W) :=
  stepPC' b f l root k s _ _ _ _ _ _ _ _ _ _ _ _ (keepL l (stepC s root k).r) (Lib.hid rfl) (Lib.hid rfl) hl hs hk R W h
end Go.Proofs.Ytegkimecdonfgaa
namespace Go.Proofs.Ytegkimecdonfgaa
open Go.RowKit
set_option maxRecDepth 100000
/-- It is refused. -/
theorem beginC_bad (b : Nat) (l : List Ln) (root : Int) (k : Ck) (a : Ac) (ha : checkAccess a ≠ 0) (R : HProp) (W : World) (h : Has W (pcAt b l root k * R)) :
    Calls Try.prog 90 #[.pointer (some ⟨b, 0, none⟩), .agg #[(Value.int .i64) a.page, (Value.int .i64) a.kind, Value.bool a.user]] W (Res (.tuple #[.agg #[(Value.int .i64) 0, (Value.int .i64) 0, (Value.int .i64) 0], Value.bool false, (Value.int .i64) (checkAccess a)]) (pcAt b l root k * R) W) := by
  have hn : (checkAccess ⟨a.page, a.kind, a.user⟩ != 0) = true := by simpa using ha
  have h1 : Has _ (blk (W.heap.size + 1) #[(Value.int .i64) 0, (Value.int .i64) 0, (Value.int .i64) 0] 87 * (blk W.heap.size #[(Value.int .i64) a.page, (Value.int .i64) a.kind, Value.bool a.user] 26 * (pcAt b l root k * R))) := ((h.new #[(Value.int .i64) a.page, (Value.int .i64) a.kind, Value.bool a.user] 26).new #[(Value.int .i64) 0, (Value.int .i64) 0, (Value.int .i64) 0] 87).eq (by simp only [World.size_alloc])
  have x1 := ((Ext.refl W).alloc (.cells #[(Value.int .i64) a.page, (Value.int .i64) a.kind, Value.bool a.user] 26)).alloc (.cells #[(Value.int .i64) 0, (Value.int .i64) 0, (Value.int .i64) 0] 87)
  have HC := Lib.hid (fun X => checkAccess_any a.page a.kind a.user X)
  clear h
  go_enter Try.func90, Try.ntmps90
  go_upto_region 1 with fail
  generalize (W.alloc (.cells #[(Value.int .i64) a.page, (Value.int .i64) a.kind, Value.bool a.user] 26)).alloc (.cells #[(Value.int .i64) 0, (Value.int .i64) 0, (Value.int .i64) 0] 87) = W1 at *
  generalize W.heap.size + 1 = X1 at *
  generalize W.heap.size = X0 at *
  obtain ⟨a0, a1, a2⟩ := h1.right.cells3
  have al := h1.right.lt
  go_wp2_with fail
  refine (HC.out _).mono ?_; rintro e w2 ⟨rfl, b2⟩
  have h2 := h1.below b2
  have x2 := x1.below b2
  clear h1 x1 a0 a1 a2 al b2 HC
  rw [show checkAccess a = checkAccess ⟨a.page, a.kind, a.user⟩ from rfl]
  generalize checkAccess ⟨a.page, a.kind, a.user⟩ = ca at *
  obtain ⟨r0, r1, r2⟩ := h2.cells3
  obtain ⟨g0, g1, g2⟩ := h2.frees3
  have rl := h2.lt
  go_wp2_with fail
  refine ret_via (fun wz => Has wz (blk X1 #[(Value.int .i64) 0, (Value.int .i64) 0, (Value.int .i64) 0] 87 * (blk X0 #[(Value.int .i64) a.page, (Value.int .i64) a.kind, Value.bool a.user] 26 * (pcAt b l root k * R))) ∧ Ext W wz) ⟨h2.set3 _ _ _, by (repeat (first | with_reducible assumption | with_reducible exact Ext.refl _ | with_reducible refine Ext.set ?_ _ _ | with_reducible refine Ext.alloc ?_ _ | with_reducible refine Ext.drew ?_ | with_reducible refine Ext.drewN ?_ _ | assumption | exact Ext.refl _ | refine Ext.alloc ?_ _ | refine Ext.set ?_ _ _ | refine Ext.drew ?_ | refine Ext.drewN ?_ _ | refine Ext.below ?_ (by assumption) | refine Ext.trans ?_ (by assumption)))⟩ ?_
  rintro wz ⟨hz, xz⟩
  exact bodyPost_ret (results_ctt Try.results90 rfl rfl rfl (load_answer hz)) rfl ⟨rfl, hz.right.right, xz⟩
/-- It is on its way already. -/
theorem beginC_busy (b : Nat) (l : List Ln) (root : Int) (k : Ck) (a : Ac) (ha : checkAccess a = 0) (hon : k.on = true) (R : HProp) (W : World) (h : Has W (pcAt b l root k * R)) :
    Calls Try.prog 90 #[.pointer (some ⟨b, 0, none⟩), .agg #[(Value.int .i64) a.page, (Value.int .i64) a.kind, Value.bool a.user]] W (Res (.tuple #[.agg #[(Value.int .i64) 0, (Value.int .i64) 0, (Value.int .i64) 0], Value.bool false, (Value.int .i64) 8]) (pcAt b l root k * R) W) := by
  have HO := Lib.hid (fun R X h => busyC b l root k R X h)
  rw [hon] at HO
  have ha' : checkAccess ⟨a.page, a.kind, a.user⟩ = 0 := ha
  clear ha
  have h1 : Has _ (blk (W.heap.size + 1) #[(Value.int .i64) 0, (Value.int .i64) 0, (Value.int .i64) 0] 87 * (blk W.heap.size #[(Value.int .i64) a.page, (Value.int .i64) a.kind, Value.bool a.user] 26 * (pcAt b l root k * R))) := ((h.new #[(Value.int .i64) a.page, (Value.int .i64) a.kind, Value.bool a.user] 26).new #[(Value.int .i64) 0, (Value.int .i64) 0, (Value.int .i64) 0] 87).eq (by simp only [World.size_alloc])
  have x1 := ((Ext.refl W).alloc (.cells #[(Value.int .i64) a.page, (Value.int .i64) a.kind, Value.bool a.user] 26)).alloc (.cells #[(Value.int .i64) 0, (Value.int .i64) 0, (Value.int .i64) 0] 87)
  have HC := Lib.hid (fun X => checkAccess_any a.page a.kind a.user X)
  clear h
  go_enter Try.func90, Try.ntmps90
  go_upto_region 1 with fail
  generalize (W.alloc (.cells #[(Value.int .i64) a.page, (Value.int .i64) a.kind, Value.bool a.user] 26)).alloc (.cells #[(Value.int .i64) 0, (Value.int .i64) 0, (Value.int .i64) 0] 87) = W1 at *
  generalize W.heap.size + 1 = X1 at *
  generalize W.heap.size = X0 at *
  obtain ⟨a0, a1, a2⟩ := h1.right.cells3
  have al := h1.right.lt
  go_wp2_with fail
  refine (HC.out _).mono ?_; rintro e w2 ⟨rfl, b2⟩
  have h2 := h1.below b2
  have x2 := x1.below b2
  clear h1 x1 a0 a1 a2 al b2 HC
  rw [ha']
  go_wp2_with fail
  refine (HO.out _ _ h2.right.right).mono ?_; rintro e w3 ⟨rfl, rfl⟩
  obtain ⟨r0, r1, r2⟩ := h2.cells3
  obtain ⟨g0, g1, g2⟩ := h2.frees3
  have rl := h2.lt
  go_wp2_with fail
  refine ret_via (fun wz => Has wz (blk X1 #[(Value.int .i64) 0, (Value.int .i64) 0, (Value.int .i64) 0] 87 * (blk X0 #[(Value.int .i64) a.page, (Value.int .i64) a.kind, Value.bool a.user] 26 * (pcAt b l root k * R))) ∧ Ext W wz) ⟨h2.set3 _ _ _, by (repeat (first | with_reducible assumption | with_reducible exact Ext.refl _ | with_reducible refine Ext.set ?_ _ _ | with_reducible refine Ext.alloc ?_ _ | with_reducible refine Ext.drew ?_ | with_reducible refine Ext.drewN ?_ _ | assumption | exact Ext.refl _ | refine Ext.alloc ?_ _ | refine Ext.set ?_ _ _ | refine Ext.drew ?_ | refine Ext.drewN ?_ _ | refine Ext.below ?_ (by assumption) | refine Ext.trans ?_ (by assumption)))⟩ ?_
  rintro wz ⟨hz, xz⟩
  exact bodyPost_ret (results_ctt Try.results90 rfl rfl rfl (load_answer hz)) rfl ⟨rfl, hz.right.right, xz⟩
def Ln.zero : Ln := ⟨Mp.zero, false⟩
/-- Does it use what is kept? -/
def useL (x : Ln) (a : Ac) : Bool := x.dirty || (a.kind != 1 || !may x.m.rights a)
set_option maxHeartbeats 4000000 in
theorem beginC_free (b : Nat) (l : List Ln) (root : Int) (k : Ck) (a : Ac) (ha : checkAccess a = 0) (hon : k.on = false) (hl : Tl.Ok l) (hp : i64 a.page) (x : Ln) (ok hit : Bool) (an : An) (q : Bq)
    (hx : Hid (lnOf (Tl.find l a.page) = x.val ∧ (Tl.find l a.page).isSome = ok)) (hh : Hid (hit = (ok && useL x a))) (hAn : Hid (answer x.m a = an)) (hq : Hid (q = if hit = true then ⟨an, true, 0, k⟩ else ⟨An.zero, false, 0, k.begin root a⟩)) (R : HProp) (W : World) (h : Has W (pcAt b l root k * R)) :
    Calls Try.prog 90 #[.pointer (some ⟨b, 0, none⟩), .agg #[(Value.int .i64) a.page, (Value.int .i64) a.kind, Value.bool a.user]] W (Res (.tuple #[.agg #[(Value.int .i64) q.an.fin, (Value.int .i64) q.an.frame, (Value.int .i64) q.an.rights], Value.bool q.fin, (Value.int .i64) q.code]) (pcAt b l root q.c * R) W) := by
  have HO := Lib.hid (fun R X h => busyC b l root k R X h)
  rw [hon] at HO
  have ha' : checkAccess ⟨a.page, a.kind, a.user⟩ = 0 := ha
  have HF := Lib.hid (fun t R X h => findT t l a.page R X hl.lok hp h)
  rw [hx.out.1, hx.out.2] at HF
  have HB := Lib.hid (fun v R X h => beginW v root k a R X h)
  have hbc : begC k a = 0 := by unfold begC; rw [if_neg (by rw [ha]; simp), if_neg (by rw [hon]; simp)]
  have hbs : begS k root a = k.begin root a := by unfold begS; rw [if_pos hbc]
  rw [hbc, hbs] at HB
  have HM := Lib.hid (fun X => may_any x.m.rights a.page a.kind a.user X)
  have HA := Lib.hid (fun X => answer_any x.m a.page a.kind a.user X)
  rw [show answer x.m ⟨a.page, a.kind, a.user⟩ = an from hAn.out] at HA
  clear ha hon hl hp hx hbc hbs hAn
  have h1 : Has _ (blk (W.heap.size + 1) #[(Value.int .i64) 0, (Value.int .i64) 0, (Value.int .i64) 0] 87 * (blk W.heap.size #[(Value.int .i64) a.page, (Value.int .i64) a.kind, Value.bool a.user] 26 * (pcAt b l root k * R))) := ((h.new #[(Value.int .i64) a.page, (Value.int .i64) a.kind, Value.bool a.user] 26).new #[(Value.int .i64) 0, (Value.int .i64) 0, (Value.int .i64) 0] 87).eq (by simp only [World.size_alloc])
  have x1 := ((Ext.refl W).alloc (.cells #[(Value.int .i64) a.page, (Value.int .i64) a.kind, Value.bool a.user] 26)).alloc (.cells #[(Value.int .i64) 0, (Value.int .i64) 0, (Value.int .i64) 0] 87)
  have HC := Lib.hid (fun X => checkAccess_any a.page a.kind a.user X)
  clear h
  go_enter Try.func90, Try.ntmps90
  go_upto_region 1 with fail
  generalize (W.alloc (.cells #[(Value.int .i64) a.page, (Value.int .i64) a.kind, Value.bool a.user] 26)).alloc (.cells #[(Value.int .i64) 0, (Value.int .i64) 0, (Value.int .i64) 0] 87) = W1 at *
  generalize W.heap.size + 1 = X1 at *
  generalize W.heap.size = X0 at *
  obtain ⟨a0, a1, a2⟩ := h1.right.cells3
  have al := h1.right.lt
  go_wp2_with fail
  refine (HC.out _).mono ?_; rintro e w2 ⟨rfl, b2⟩
  have h2 := h1.below b2
  have x2 := x1.below b2
  clear h1 x1 a0 a1 a2 al b2 HC
  rw [ha']
  go_wp2_with fail
  refine (HO.out _ _ h2.right.right).mono ?_; rintro e w3 ⟨rfl, rfl⟩
  obtain ⟨t, v, h3⟩ := pcAt_open (h2.eq (show _ = pcAt b l root k * (blk X1 #[(Value.int .i64) 0, (Value.int .i64) 0, (Value.int .i64) 0] 87 * (blk X0 #[(Value.int .i64) a.page, (Value.int .i64) a.kind, Value.bool a.user] 26 * R)) by ac_rfl))
  have h4 : Has _ (tlbAt t l * (blk b #[.pointer (some ⟨t, 0, none⟩), .pointer (some ⟨v, 0, none⟩)] 155 * (blk X0 #[(Value.int .i64) a.page, (Value.int .i64) a.kind, Value.bool a.user] 26 * (blk X1 #[(Value.int .i64) 0, (Value.int .i64) 0, (Value.int .i64) 0] 87 * (walkerAt v root k * R))))) := h3.eq (by ac_rfl)
  have x4 := x2
  clear HO ha' h2 h3 x2
  obtain ⟨c0, c1⟩ := h4.right.cells2
  have cl := h4.right.lt
  obtain ⟨a0, a1, a2⟩ := h4.right.right.cells3
  have al := h4.right.right.lt
  have HK := Lib.hid (fun (w' : World) (P Q : HProp) (h : Has w' (P * (blk b #[.pointer (some ⟨t, 0, none⟩), .pointer (some ⟨v, 0, none⟩)] 155 * (blk X0 #[(Value.int .i64) a.page, (Value.int .i64) a.kind, Value.bool a.user] 26 * Q)))) => (by
    obtain ⟨b0, _⟩ := h.right.cells2
    obtain ⟨m0, _⟩ := h.right.right.cells3
    exact ⟨b0, m0⟩ : w'.cell? ⟨b, 0, none⟩ = some (.pointer (some ⟨t, 0, none⟩)) ∧ w'.cell? ⟨X0, 0, none⟩ = some ((Value.int .i64) a.page)))
  go_upto_region 6 with fail
  go_cut [8, 9] from 19 to 29 (fun s8 s9 wx => ∃ V : Nat, s8 = .pointer (some ⟨V, 0, none⟩) ∧ s9 = Value.bool ok ∧ Has wx (blk V #[(Value.int .i64) x.m.page, (Value.int .i64) x.m.size, (Value.int .i64) x.m.frame, (Value.int .i64) x.m.rights, Value.bool x.dirty] 174 * (tlbAt t l * (blk b #[.pointer (some ⟨t, 0, none⟩), .pointer (some ⟨v, 0, none⟩)] 155 * (blk X0 #[(Value.int .i64) a.page, (Value.int .i64) a.kind, Value.bool a.user] 26 * (blk X1 #[(Value.int .i64) 0, (Value.int .i64) 0, (Value.int .i64) 0] 87 * (walkerAt v root k * R)))))) ∧ Ext W wx)
  case first =>
    have h5 := h4.drew
    have x5 := x4.drew
    have z5 : Has (w2.alloc (.cells #[(Value.int .i64) 0, (Value.int .i64) 0, (Value.int .i64) 0, (Value.int .i64) 0, Value.bool false] 174)).drew (tlbAt t l * (blk b #[.pointer (some ⟨t, 0, none⟩), .pointer (some ⟨v, 0, none⟩)] 155 * (blk X0 #[(Value.int .i64) a.page, (Value.int .i64) a.kind, Value.bool a.user] 26 * (blk w2.heap.size #[(Value.int .i64) 0, (Value.int .i64) 0, (Value.int .i64) 0, (Value.int .i64) 0, Value.bool false] 174 * (blk X1 #[(Value.int .i64) 0, (Value.int .i64) 0, (Value.int .i64) 0] 87 * (walkerAt v root k * R)))))) := (h4.new #[(Value.int .i64) 0, (Value.int .i64) 0, (Value.int .i64) 0, (Value.int .i64) 0, Value.bool false] 174).drew.eq (by ac_rfl)
    have y5 := (x4.alloc (.cells #[(Value.int .i64) 0, (Value.int .i64) 0, (Value.int .i64) 0, (Value.int .i64) 0, Value.bool false] 174)).drew
    go_region_held3 (fun w' => w'.cell? ⟨b, 0, none⟩ = some (.pointer (some ⟨t, 0, none⟩)) ∧ w'.cell? ⟨X0, 0, none⟩ = some ((Value.int .i64) a.page)) (first | (with_reducible exact HK.out _ _ _ h5) | (with_reducible exact HK.out _ _ _ z5) | (with_reducible exact HK.out _ _ _ hL) | (with_reducible exact HK.out _ _ _ (hL.alloc _)) | (with_reducible exact HK.out _ _ _ gL) | (with_reducible exact HK.out _ _ _ gL.right) | (with_reducible exact HK.out _ _ _ (gL.set5 _ _ _ _ _).right) | go_keep) (first | (go_at_call 112; first | ((with_reducible refine (HF.out _ _ _ h5).mono ?_); rintro e w5 ⟨rfl, b5⟩; have hL := h5.below b5; have xL := x5.below b5) | ((with_reducible refine (HF.out _ _ _ z5).mono ?_); rintro e w5 ⟨rfl, b5⟩; have gL : Has w5 (blk w2.heap.size #[(Value.int .i64) 0, (Value.int .i64) 0, (Value.int .i64) 0, (Value.int .i64) 0, Value.bool false] 174 * (tlbAt t l * (blk b #[.pointer (some ⟨t, 0, none⟩), .pointer (some ⟨v, 0, none⟩)] 155 * (blk X0 #[(Value.int .i64) a.page, (Value.int .i64) a.kind, Value.bool a.user] 26 * (blk X1 #[(Value.int .i64) 0, (Value.int .i64) 0, (Value.int .i64) 0] 87 * (walkerAt v root k * R)))))) := (z5.below b5).eq (by ac_rfl); have yL := y5.below b5; obtain ⟨z0, z1, z2, z3, z4⟩ := gL.cells5; obtain ⟨y0, y1, y2, y3, y4⟩ := gL.frees5; have zl := gL.lt)))
    all_goals
      go_wp2_with fail
      go_meet
      case rel => first | exact ⟨_, rfl, rfl, hL.new #[(Value.int .i64) x.m.page, (Value.int .i64) x.m.size, (Value.int .i64) x.m.frame, (Value.int .i64) x.m.rights, Value.bool x.dirty] 174, xL.alloc _⟩ | exact ⟨_, rfl, rfl, gL.set5 _ _ _ _ _, ((((yL.set _ _).set _ _).set _ _).set _ _).set _ _⟩
  case rest =>
    clear h4 x4 c0 c1 cl a0 a1 a2 al HK HF
    obtain ⟨V, rfl, rfl, h5, x5⟩ := hcut
    obtain ⟨v0, v1, v2, v3, v4⟩ := h5.cells5
    have vl := h5.lt
    obtain ⟨c0, c1⟩ := h5.right.right.cells2
    have cl := h5.right.right.lt
    obtain ⟨a0, a1, a2⟩ := h5.right.right.right.cells3
    have al := h5.right.right.right.lt
    go_upto_region 7 with fail
    go_cut [46] from 29 to 46 (fun s46 wx => s46 = Value.bool hit ∧ Has wx (blk V #[(Value.int .i64) x.m.page, (Value.int .i64) x.m.size, (Value.int .i64) x.m.frame, (Value.int .i64) x.m.rights, Value.bool x.dirty] 174 * (tlbAt t l * (blk b #[.pointer (some ⟨t, 0, none⟩), .pointer (some ⟨v, 0, none⟩)] 155 * (blk X0 #[(Value.int .i64) a.page, (Value.int .i64) a.kind, Value.bool a.user] 26 * (blk X1 #[(Value.int .i64) 0, (Value.int .i64) 0, (Value.int .i64) 0] 87 * (walkerAt v root k * R)))))) ∧ Ext W wx)
    case first =>
      replace hh := hh.out
      unfold useL at hh
      cases ok with
      | false =>
        replace hh : hit = false := hh
        subst hh
        go_wp2_with fail
        go_meet
        case rel => exact ⟨rfl, h5, x5⟩
      | true =>
        cases hd : x.dirty with
        | true =>
          rw [hd] at hh v4
          clear hd
          replace hh : hit = true := hh
          subst hh
          go_wp2_with fail
          go_meet
          case rel => exact ⟨rfl, h5, x5⟩
        | false =>
          rw [hd] at hh v4
          clear hd
          by_cases hk : a.kind = 1
          · have hk1 : (a.kind != 1) = false := by simpa using hk
            rw [hk1] at hh
            replace hh : hit = !may x.m.rights ⟨a.page, a.kind, a.user⟩ := hh
            generalize may x.m.rights ⟨a.page, a.kind, a.user⟩ = my at *
            subst hh
            clear hk
            go_wp2_with fail
            refine (HM.out _).mono ?_; rintro e w7 ⟨rfl, b7⟩
            have h7 := h5.below b7
            have x7 := x5.below b7
            cases my
            all_goals
              go_wp2_with fail
              go_meet
              case rel => exact ⟨rfl, h7, x7⟩
          · have hk1 : (a.kind != 1) = true := by simpa using hk
            rw [hk1] at hh
            replace hh : hit = true := hh
            subst hh
            clear hk
            go_wp2_with fail
            go_meet
            case rel => exact ⟨rfl, h5, x5⟩
    case rest =>
      clear h5 x5 v0 v1 v2 v3 v4 vl c0 c1 cl a0 a1 a2 al hh HM
      obtain ⟨rfl, h5, x5⟩ := hcut
      obtain ⟨v0, v1, v2, v3, v4⟩ := h5.cells5
      have vl := h5.lt
      obtain ⟨c0, c1⟩ := h5.right.right.cells2
      have cl := h5.right.right.lt
      obtain ⟨a0, a1, a2⟩ := h5.right.right.right.cells3
      have al := h5.right.right.right.lt
      have hq := hq.out
      cases hit with
      | true =>
        rw [if_pos rfl] at hq
        subst hq
        try dsimp only
        go_wp2_with fail
        refine (HA.out _).mono ?_; rintro e w7 ⟨rfl, b7⟩
        have h7 : Has w7 (blk X1 #[(Value.int .i64) 0, (Value.int .i64) 0, (Value.int .i64) 0] 87 * (blk V #[(Value.int .i64) x.m.page, (Value.int .i64) x.m.size, (Value.int .i64) x.m.frame, (Value.int .i64) x.m.rights, Value.bool x.dirty] 174 * (tlbAt t l * (blk b #[.pointer (some ⟨t, 0, none⟩), .pointer (some ⟨v, 0, none⟩)] 155 * (blk X0 #[(Value.int .i64) a.page, (Value.int .i64) a.kind, Value.bool a.user] 26 * (walkerAt v root k * R)))))) := (h5.below b7).eq (by ac_rfl)
        have x7 := x5.below b7
        obtain ⟨r0, r1, r2⟩ := h7.cells3
        obtain ⟨g0, g1, g2⟩ := h7.frees3
        have rl := h7.lt
        go_wp2_with fail
        refine ret_via (fun wz => Has wz (blk X1 #[(Value.int .i64) an.fin, (Value.int .i64) an.frame, (Value.int .i64) an.rights] 87 * (blk V #[(Value.int .i64) x.m.page, (Value.int .i64) x.m.size, (Value.int .i64) x.m.frame, (Value.int .i64) x.m.rights, Value.bool x.dirty] 174 * (tlbAt t l * (blk b #[.pointer (some ⟨t, 0, none⟩), .pointer (some ⟨v, 0, none⟩)] 155 * (blk X0 #[(Value.int .i64) a.page, (Value.int .i64) a.kind, Value.bool a.user] 26 * (walkerAt v root k * R)))))) ∧ Ext W wz) ⟨h7.set3 _ _ _, by (repeat (first | with_reducible assumption | with_reducible exact Ext.refl _ | with_reducible refine Ext.set ?_ _ _ | with_reducible refine Ext.alloc ?_ _ | with_reducible refine Ext.drew ?_ | with_reducible refine Ext.drewN ?_ _ | assumption | exact Ext.refl _ | refine Ext.alloc ?_ _ | refine Ext.set ?_ _ _ | refine Ext.drew ?_ | refine Ext.drewN ?_ _ | refine Ext.below ?_ (by assumption) | refine Ext.trans ?_ (by assumption)))⟩ ?_
        rintro wz ⟨hz, xz⟩
        exact bodyPost_ret (results_ctt Try.results90 rfl rfl rfl (load_answer hz)) rfl ⟨rfl, (pcAt_shut (hz.right.right.eq (show _ = blk b #[.pointer (some ⟨t, 0, none⟩), .pointer (some ⟨v, 0, none⟩)] 155 * (tlbAt t l * (walkerAt v root k * (blk X0 #[(Value.int .i64) a.page, (Value.int .i64) a.kind, Value.bool a.user] 26 * R))) by ac_rfl))).p2.right, xz⟩
      | false =>
        rw [if_neg (by simp)] at hq
        subst hq
        try dsimp only [An.zero]
        have h6 : Has wc.drew (walkerAt v root k * (blk b #[.pointer (some ⟨t, 0, none⟩), .pointer (some ⟨v, 0, none⟩)] 155 * (blk X0 #[(Value.int .i64) a.page, (Value.int .i64) a.kind, Value.bool a.user] 26 * (blk X1 #[(Value.int .i64) 0, (Value.int .i64) 0, (Value.int .i64) 0] 87 * (blk V #[(Value.int .i64) x.m.page, (Value.int .i64) x.m.size, (Value.int .i64) x.m.frame, (Value.int .i64) x.m.rights, Value.bool x.dirty] 174 * (tlbAt t l * R)))))) := h5.drew.eq (by ac_rfl)
        have x6 := x5.drew
        have h6x : Has wc (blk X1 #[(Value.int .i64) 0, (Value.int .i64) 0, (Value.int .i64) 0] 87 * (walkerAt v root k * (blk b #[.pointer (some ⟨t, 0, none⟩), .pointer (some ⟨v, 0, none⟩)] 155 * (blk X0 #[(Value.int .i64) a.page, (Value.int .i64) a.kind, Value.bool a.user] 26 * (blk V #[(Value.int .i64) x.m.page, (Value.int .i64) x.m.size, (Value.int .i64) x.m.frame, (Value.int .i64) x.m.rights, Value.bool x.dirty] 174 * (tlbAt t l * R)))))) := h5.eq (by ac_rfl)
        obtain ⟨r0, r1, r2⟩ := h6x.cells3
        obtain ⟨g0, g1, g2⟩ := h6x.frees3
        have rl := h6x.lt
        have h6s := h6x.set3 ((Value.int .i64) 0) ((Value.int .i64) 0) ((Value.int .i64) 0)
        have h6d : Has _ (walkerAt v root k * (blk b #[.pointer (some ⟨t, 0, none⟩), .pointer (some ⟨v, 0, none⟩)] 155 * (blk X0 #[(Value.int .i64) a.page, (Value.int .i64) a.kind, Value.bool a.user] 26 * (blk X1 #[(Value.int .i64) 0, (Value.int .i64) 0, (Value.int .i64) 0] 87 * (blk V #[(Value.int .i64) x.m.page, (Value.int .i64) x.m.size, (Value.int .i64) x.m.frame, (Value.int .i64) x.m.rights, Value.bool x.dirty] 174 * (tlbAt t l * R)))))) := h6s.drew.eq (by ac_rfl)
        have x6d := (((x5.set ⟨X1, 0, none⟩ ((Value.int .i64) 0)).set ⟨X1, 1, none⟩ ((Value.int .i64) 0)).set ⟨X1, 2, none⟩ ((Value.int .i64) 0)).drew
        have HK := Lib.hid (fun (w' : World) (P Q : HProp) (h : Has w' (P * (blk b #[.pointer (some ⟨t, 0, none⟩), .pointer (some ⟨v, 0, none⟩)] 155 * (blk X0 #[(Value.int .i64) a.page, (Value.int .i64) a.kind, Value.bool a.user] 26 * Q)))) => (by
          obtain ⟨_, b0⟩ := h.right.cells2
          obtain ⟨m0, m1, m2⟩ := h.right.right.cells3
          exact ⟨b0, m0, m1, m2⟩ : w'.cell? ⟨b, 1, none⟩ = some (.pointer (some ⟨v, 0, none⟩)) ∧ w'.cell? ⟨X0, 0, none⟩ = some ((Value.int .i64) a.page) ∧ w'.cell? ⟨X0, 1, none⟩ = some ((Value.int .i64) a.kind) ∧ w'.cell? ⟨X0, 2, none⟩ = some (Value.bool a.user)))
        have HKS := Lib.hid (fun (w' : World) (P Q S : HProp) (h : Has w' (P * (Q * (S * (blk X1 #[(Value.int .i64) 0, (Value.int .i64) 0, (Value.int .i64) 0] 87 * (blk V #[(Value.int .i64) x.m.page, (Value.int .i64) x.m.size, (Value.int .i64) x.m.frame, (Value.int .i64) x.m.rights, Value.bool x.dirty] 174 * (tlbAt t l * R))))))) => (by
          have h7 : Has w' (blk X1 #[(Value.int .i64) 0, (Value.int .i64) 0, (Value.int .i64) 0] 87 * (P * (Q * (S * (blk V #[(Value.int .i64) x.m.page, (Value.int .i64) x.m.size, (Value.int .i64) x.m.frame, (Value.int .i64) x.m.rights, Value.bool x.dirty] 174 * (tlbAt t l * R)))))) := h.eq (by ac_rfl)
          exact (h7.set3 ((Value.int .i64) 0) ((Value.int .i64) 0) ((Value.int .i64) 0)).eq (by ac_rfl) : Has (((w'.setCell ⟨X1, 0, none⟩ ((Value.int .i64) 0)).setCell ⟨X1, 1, none⟩ ((Value.int .i64) 0)).setCell ⟨X1, 2, none⟩ ((Value.int .i64) 0)) (P * (Q * (S * (blk X1 #[(Value.int .i64) 0, (Value.int .i64) 0, (Value.int .i64) 0] 87 * (blk V #[(Value.int .i64) x.m.page, (Value.int .i64) x.m.size, (Value.int .i64) x.m.frame, (Value.int .i64) x.m.rights, Value.bool x.dirty] 174 * (tlbAt t l * R))))))))
        clear h5 x5 HA
        go_upto_region 9 with fail
        go_region_held3 (fun w' => w'.cell? ⟨b, 1, none⟩ = some (.pointer (some ⟨v, 0, none⟩)) ∧ w'.cell? ⟨X0, 0, none⟩ = some ((Value.int .i64) a.page) ∧ w'.cell? ⟨X0, 1, none⟩ = some ((Value.int .i64) a.kind) ∧ w'.cell? ⟨X0, 2, none⟩ = some (Value.bool a.user)) (first | (with_reducible exact HK.out _ _ _ h6) | (with_reducible exact HK.out _ _ _ h6d) | (with_reducible exact HK.out _ _ _ hL) | (with_reducible exact HK.out _ _ _ sL) | go_keep) (first | (go_at_call 115; first | ((with_reducible refine (HB.out _ _ _ h6).mono ?_); rintro e w7 ⟨rfl, hL, xL⟩; obtain ⟨s0, s1, s2⟩ := hL.right.right.right.cells3; obtain ⟨t0, t1, t2⟩ := hL.right.right.right.frees3; have sl := hL.right.right.right.lt; have sL := HKS.out _ _ _ _ hL) | ((with_reducible refine (HB.out _ _ _ h6d).mono ?_); rintro e w7 ⟨rfl, hL, xL⟩; obtain ⟨s0, s1, s2⟩ := hL.right.right.right.cells3; obtain ⟨t0, t1, t2⟩ := hL.right.right.right.frees3; have sl := hL.right.right.right.lt; have sL := HKS.out _ _ _ _ hL)))
        all_goals
          go_wp2_with fail
          refine ret_via (fun wz => Has wz (blk X1 #[(Value.int .i64) 0, (Value.int .i64) 0, (Value.int .i64) 0] 87 * (walkerAt v root (k.begin root a) * (blk b #[.pointer (some ⟨t, 0, none⟩), .pointer (some ⟨v, 0, none⟩)] 155 * (blk X0 #[(Value.int .i64) a.page, (Value.int .i64) a.kind, Value.bool a.user] 26 * (blk V #[(Value.int .i64) x.m.page, (Value.int .i64) x.m.size, (Value.int .i64) x.m.frame, (Value.int .i64) x.m.rights, Value.bool x.dirty] 174 * (tlbAt t l * R)))))) ∧ Ext W wz) ⟨by first | exact sL.eq (by ac_rfl) | exact hL.eq (by ac_rfl), by (repeat (first | with_reducible assumption | with_reducible exact Ext.refl _ | with_reducible refine Ext.set ?_ _ _ | with_reducible refine Ext.alloc ?_ _ | with_reducible refine Ext.drew ?_ | with_reducible refine Ext.drewN ?_ _ | assumption | exact Ext.refl _ | refine Ext.alloc ?_ _ | refine Ext.set ?_ _ _ | refine Ext.drew ?_ | refine Ext.drewN ?_ _ | refine Ext.below ?_ (by assumption) | refine Ext.trans ?_ (by assumption)))⟩ ?_
          rintro wz ⟨hz, xz⟩
          exact bodyPost_ret (results_ctt Try.results90 rfl rfl rfl (load_answer hz)) rfl ⟨rfl, (pcAt_shut (hz.right.eq (show _ = blk b #[.pointer (some ⟨t, 0, none⟩), .pointer (some ⟨v, 0, none⟩)] 155 * (tlbAt t l * (walkerAt v root (k.begin root a) * (blk X0 #[(Value.int .i64) a.page, (Value.int .i64) a.kind, Value.bool a.user] 26 * (blk V #[(Value.int .i64) x.m.page, (Value.int .i64) x.m.size, (Value.int .i64) x.m.frame, (Value.int .i64) x.m.rights, Value.bool x.dirty] 174 * R)))) by ac_rfl))).p2.right.p2.right, xz⟩
theorem beginC (b : Nat) (l : List Ln) (root : Int) (k : Ck) (a : Ac) (hl : Tl.Ok l) (hp : i64 a.page) (R : HProp) (W : World) (h : Has W (pcAt b l root k * R)) :
    Calls Try.prog 90 #[.pointer (some ⟨b, 0, none⟩), .agg #[(Value.int .i64) a.page, (Value.int .i64) a.kind, Value.bool a.user]] W
      (Res (.tuple #[.agg #[(Value.int .i64) (coreB l root k a).an.fin, (Value.int .i64) (coreB l root k a).an.frame, (Value.int .i64) (coreB l root k a).an.rights], Value.bool (coreB l root k a).fin, (Value.int .i64) (coreB l root k a).code]) (pcAt b l root (coreB l root k a).c * R) W) := by
  by_cases ha : checkAccess a = 0
  · cases hon : k.on with
    | true =>
      have e : coreB l root k a = ⟨An.zero, false, 8, k⟩ := by unfold coreB; rw [if_neg (by rw [ha]; simp), if_pos hon]
      rw [e]
      exact beginC_busy b l root k a ha hon R W h
    | false =>
      have e : coreB l root k a = match hitA l a with | some r => ⟨r, true, 0, k⟩ | none => ⟨An.zero, false, 0, k.begin root a⟩ := by unfold coreB; rw [if_neg (by rw [ha]; simp), if_neg (by rw [hon]; simp)]; rfl
      cases hf : Tl.find l a.page with
      | none =>
        have e2 : hitA l a = none := by unfold hitA; rw [hf]
        rw [e2] at e
        exact beginC_free b l root k a ha hon hl hp Ln.zero false false (answer Ln.zero.m a) _ (Lib.hid ⟨by rw [hf]; rfl, by rw [hf]; rfl⟩) (Lib.hid rfl) (Lib.hid rfl) (Lib.hid e) R W h
      | some x =>
        cases hu : useL x a with
        | true =>
          have e2 : hitA l a = some (answer x.m a) := by
            unfold hitA; rw [hf]
            refine if_pos ?_
            unfold useL at hu
            simpa using hu
          rw [e2] at e
          exact beginC_free b l root k a ha hon hl hp x true true (answer x.m a) _ (Lib.hid ⟨by rw [hf]; rfl, by rw [hf]; rfl⟩) (Lib.hid (by rw [hu]; rfl)) (Lib.hid rfl) (Lib.hid e) R W h
        | false =>
          have e2 : hitA l a = none := by
            unfold hitA; rw [hf]
            refine if_neg fun h => ?_
            have : useL x a = true := by unfold useL; simpa using h
            rw [this] at hu; cases hu
          rw [e2] at e
          exact beginC_free b l root k a ha hon hl hp x true false (answer x.m a) _ (Lib.hid ⟨by rw [hf]; rfl, by rw [hf]; rfl⟩) (Lib.hid (by rw [hu]; rfl)) (Lib.hid rfl) (Lib.hid e) R W h
  · have e : coreB l root k a = ⟨An.zero, false, checkAccess a, k⟩ := by unfold coreB; rw [if_pos ha]
    rw [e]
    exact beginC_bad b l root k a ha R W h
end Go.Proofs.Ytegkimecdonfgaa
namespace Go.Proofs.Ytegkimecdonfgaa
open Go.RowKit
set_option maxRecDepth 100000
def ptr (b : Nat) : Value := .pointer (some ⟨b, 0, none⟩)
def prow (v : Value) (l : List Nat) : HProp := row 145 1 v l.length (l.map ptr)
theorem prow_len {w : World} {R : HProp} {A : Option Addr} {n c : Nat} {l : List Nat} (h : Has w (prow (.slice A n c) l * R)) : n = l.length := by
  rcases (Has.rowCases (e := 145) (size := 1) h) with ⟨hv, h0, _⟩ | ⟨g, cap, cur, hv, _⟩
  · injection hv with a b
    omega
  · injection hv
theorem prow_at {w : World} {R : HProp} {A : Option Addr} {n c : Nat} {l : List Nat} (h : Has w (prow (.slice A n c) l * R)) {k p : Nat} (hk : l[k]? = some p) :
    ∃ b, A = some ⟨b, 0, none⟩ ∧ b < w.heap.size ∧ w.cell? ⟨b, k, none⟩ = some (.pointer (some ⟨p, 0, none⟩)) := by
  obtain rfl := prow_len h
  obtain ⟨b, e, hb, hc, _⟩ := Has.rowGet (e := 145) (size := 1) h (i := k) (u := ptr p) (by simp [hk])
  exact ⟨b, e, hb, hc⟩
theorem elemPC : Elem Try.prog 145 (.pointer none) 1 8 := ⟨by kernel_rfl, rfl, by omega⟩
/-- Cores, each at its place. -/
def coresAt : List Nat → List Cr → HProp
  | p :: ps, c :: cs => pcAt p c.l 0 c.k * coresAt ps cs
  | _, _ => lift True
theorem cores_at : ∀ {ps : List Nat} {cs : List Cr} {k p : Nat} {c : Cr}, ps[k]? = some p → cs[k]? = some c → ∃ Q, coresAt ps cs = pcAt p c.l 0 c.k * Q ∧ ∀ c', coresAt ps (cs.set k c') = pcAt p c'.l 0 c'.k * Q
  | [], _, _, _, _, h, _ => by simp at h
  | _ :: _, [], _, _, _, _, h => by simp at h
  | q :: ps, d :: cs, 0, p, c, h1, h2 => by
    simp at h1 h2
    subst h1; subst h2
    exact ⟨coresAt ps cs, rfl, fun c' => rfl⟩
  | q :: ps, d :: cs, k + 1, p, c, h1, h2 => by
    simp at h1 h2
    obtain ⟨Q, e1, e2⟩ := cores_at h1 h2
    refine ⟨pcAt q d.l 0 d.k * Q, ?_, fun c' => ?_⟩
    · show pcAt q d.l 0 d.k * coresAt ps cs = _
      rw [e1]; ac_rfl
    · show pcAt q d.l 0 d.k * coresAt ps (cs.set k c') = _
      rw [e2]; ac_rfl
theorem cores_snoc : ∀ (ps : List Nat) (cs : List Cr) (p : Nat) (c : Cr), ps.length = cs.length → coresAt (ps ++ [p]) (cs ++ [c]) = pcAt p c.l 0 c.k * coresAt ps cs
  | [], [], p, c, _ => rfl
  | [], _ :: _, _, _, h => by simp at h
  | _ :: _, [], _, _, h => by simp at h
  | q :: ps, d :: cs, p, c, h => by
    show pcAt q d.l 0 d.k * coresAt (ps ++ [p]) (cs ++ [c]) = _
    rw [cores_snoc ps cs p c (by simpa using h)]
    show _ = pcAt p c.l 0 c.k * (pcAt q d.l 0 d.k * coresAt ps cs)
    ac_rfl
/-- Where the pieces of a Space lie. -/
structure Sl where
  f : Nat
  sh : Nat
  A : Option Addr
  c : Nat
  ps : List Nat
  G : Option Addr
  d : Nat
def spaceIn (b : Nat) (σ : Sc) (y : Sl) (R : HProp) : HProp :=
  blk b #[.pointer (some ⟨y.f, 0, none⟩), (Value.int .i64) 0, .slice y.A y.ps.length y.c, .pointer (some ⟨y.sh, 0, none⟩), Value.bool σ.busy, .slice y.G σ.gone.length y.d] 144 * (prow (.slice y.A y.ps.length y.c) y.ps * (irow (.slice y.G σ.gone.length y.d) σ.gone *
    (shootAt y.sh σ.told σ.wait * (coresAt y.ps σ.cs * (frA y.f σ.s * R)))))
def spaceAt (b : Nat) (σ : Sc) : HProp := ex fun y => lift (y.ps.length = σ.cs.length) * spaceIn b σ y (lift True)
section
variable {w : World} {b : Nat} {σ : Sc} {R : HProp}
theorem spaceAt_open (h : Has w (spaceAt b σ * R)) : ∃ y, y.ps.length = σ.cs.length ∧ Has w (spaceIn b σ y R) := by
  unfold spaceAt at h
  obtain ⟨y, h⟩ := has_ex_star.1 h
  rw [star_assoc] at h
  obtain ⟨hy, h⟩ := has_lift.1 h
  refine ⟨y, hy, ?_⟩
  have h2 : Has w (lift True * spaceIn b σ y R) := h.eq (by unfold spaceIn; ac_rfl)
  exact h2.right
theorem spaceAt_shut {y : Sl} (hy : y.ps.length = σ.cs.length) (h : Has w (spaceIn b σ y R)) : Has w (spaceAt b σ * R) := by
  unfold spaceAt
  refine has_ex_star.2 ⟨y, ?_⟩
  rw [star_assoc]
  refine has_lift.2 ⟨hy, ?_⟩
  have h2 : Has w (lift True * spaceIn b σ y R) := has_lift.2 ⟨trivial, h⟩
  exact h2.eq (by unfold spaceIn; ac_rfl)
end
/-- A step's words over frames that agree in what is in use. -/
theorem Agree.stepC {s s' : Ms} (h : Agree s' s) (r : Int) (k : Ck) : (Go.Proofs.Ytegkimecdonfgaa.stepC s' r k).c = (Go.Proofs.Ytegkimecdonfgaa.stepC s r k).c ∧ (Go.Proofs.Ytegkimecdonfgaa.stepC s' r k).r = (Go.Proofs.Ytegkimecdonfgaa.stepC s r k).r ∧ (Go.Proofs.Ytegkimecdonfgaa.stepC s' r k).code = (Go.Proofs.Ytegkimecdonfgaa.stepC s r k).code ∧
    Agree (Go.Proofs.Ytegkimecdonfgaa.stepC s' r k).s (Go.Proofs.Ytegkimecdonfgaa.stepC s r k).s := by
  unfold Go.Proofs.Ytegkimecdonfgaa.stepC
  by_cases h1 : k.on = false
  · rw [if_pos h1, if_pos h1]; exact ⟨rfl, rfl, rfl, h⟩
  rw [if_neg h1, if_neg h1, h.has]
  by_cases h2 : s.has k.t = false
  · rw [if_pos h2, if_pos h2]; exact ⟨rfl, rfl, rfl, h⟩
  rw [if_neg h2, if_neg h2]
  have ew : k.word s' = k.word s := h.word (by rw [h.has]; simpa using h2) _
  rw [ew]
  by_cases h3 : k.mark = true ∧ k.word s ≠ k.w
  · rw [if_pos h3, if_pos h3]; exact ⟨rfl, rfl, rfl, h⟩
  rw [if_neg h3, if_neg h3]
  by_cases h4 : decC (k.word s) k.level ≠ 0
  · rw [if_pos h4, if_pos h4]; exact ⟨rfl, rfl, rfl, h⟩
  rw [if_neg h4, if_neg h4]
  by_cases h5 : (decE (k.word s) k.level).there = false
  · rw [if_pos h5, if_pos h5]; exact ⟨rfl, rfl, rfl, h⟩
  rw [if_neg h5, if_neg h5]
  by_cases h6 : (decE (k.word s) k.level).leaf = false
  · rw [if_pos h6, if_pos h6]; exact ⟨rfl, rfl, rfl, h⟩
  rw [if_neg h6, if_neg h6]
  by_cases h7 : may (decE (k.word s) k.level).rights k.a = false
  · rw [if_pos h7, if_pos h7]; exact ⟨rfl, rfl, rfl, h⟩
  rw [if_neg h7, if_neg h7]
  by_cases h8 : k.mark = true
  · rw [if_pos h8, if_pos h8]; exact ⟨rfl, rfl, rfl, h.setW _ _ _⟩
  rw [if_neg h8, if_neg h8]
  by_cases h9 : readyE (decE (k.word s) k.level) k.a = true
  · rw [if_pos h9, if_pos h9]; exact ⟨rfl, rfl, rfl, h⟩
  rw [if_neg h9, if_neg h9]
  exact ⟨rfl, rfl, rfl, h⟩
theorem stepA (b f : Nat) (c : Cr) (s : Ms) (hc : Tl.Ok c.l ∧ c.k.Ok) (R : HProp) (W : World) (h : Has W (pcAt b c.l 0 c.k * (frA f s * R))) :
    Calls Try.prog 91 #[.pointer (some ⟨b, 0, none⟩), .pointer (some ⟨f, 0, none⟩)] W
      (Res (.tuple #[.agg #[(Value.int .i64) (stepC s 0 c.k).r.an.fin, (Value.int .i64) (stepC s 0 c.k).r.an.frame, (Value.int .i64) (stepC s 0 c.k).r.an.rights], Value.bool (stepC s 0 c.k).r.fin, (Value.int .i64) (stepC s 0 c.k).code]) (pcAt b (keepL c.l (stepC s 0 c.k).r) 0 (stepC s 0 c.k).c * (frA f (stepC s 0 c.k).s * R)) W) := by
  obtain ⟨s', ho, ha, h'⟩ := frA_open h.p2
  obtain ⟨a1, a2, a3, a4⟩ := ha.stepC 0 c.k
  refine (stepPC b f c.l 0 c.k s' hc.1 ho hc.2 R W h'.p2).mono ?_
  rintro e w' ⟨he, h2, x2⟩
  rw [a2, a3] at he
  rw [a1, a2] at h2
  exact ⟨he, (frA_shut h2.p2 (stepC_ok ho 0 c.k) a4).p2, x2⟩
end Go.Proofs.Ytegkimecdonfgaa
namespace Go.Proofs.Ytegkimecdonfgaa
open Go.RowKit
section
variable {s s' : Ms} {r : Int} {gone : List Int} {X : Int → Prop}
/-- Words go, and nothing else: a way is no longer than it was. -/
theorem tabD_less (hw : ∀ a b, s'.wd a b = s.wd a b ∨ s'.wd a b = 0) (hh : ∀ u, s'.has u = s.has u) {q : Int} : ∀ (d : Nat) (t : Int), d ≤ 4 → tabD s' r q d = some t → tabD s r q d = some t := by
  intro d
  induction d with
  | zero => intro t _ h; exact h
  | succ d ih =>
    intro t hd h
    obtain ⟨u, hu, hg, hf⟩ := tabD_succ.1 h
    refine tabD_succ.2 ⟨u, ih u (by omega) hu, ?_⟩
    have g3 := (goB_iff.1 hg).2.2.1
    have e : wordV s' u (index q (3 - d : Nat)) = wordV s u (index q (3 - d : Nat)) := by
      rcases hw u.toNat (index q (3 - d : Nat)).toNat with e | e
      · exact e
      · have e : wordV s' u (index q (3 - d : Nat)) = 0 := e
        unfold eOf at g3
        rw [e, (dec_zero (by omega)).2] at g3
        cases g3
    unfold goB eOf at hg
    unfold eOf at hf
    rw [e, hh] at hg
    rw [e] at hf
    unfold goB eOf
    exact ⟨hg, hf⟩
/-- What stands stays: a way is no shorter than it was. -/
theorem tabD_more (hu : ∀ u i, s.has u = true → 0 ≤ i → s'.has u = true ∧ (wordV s u i = 0 ∨ wordV s' u i = wordV s u i)) {q : Int} (hq : InP q) : ∀ (d : Nat) (t : Int), d ≤ 4 → tabD s r q d = some t → tabD s' r q d = some t := by
  intro d
  induction d with
  | zero => intro t _ h; exact h
  | succ d ih =>
    intro t hd h
    obtain ⟨u, hu', hg, hf⟩ := tabD_succ.1 h
    refine tabD_succ.2 ⟨u, ih u (by omega) hu', ?_⟩
    obtain ⟨g1, _, g3, _⟩ := goB_iff.1 hg
    have hi := index_range hq (show 3 - d ≤ 3 by omega)
    obtain ⟨k1, k2⟩ := hu u (index q (3 - d : Nat)) g1 hi.1
    have e : wordV s' u (index q (3 - d : Nat)) = wordV s u (index q (3 - d : Nat)) := by
      rcases k2 with e | e
      · unfold eOf at g3
        rw [e, (dec_zero (by omega)).2] at g3
        cases g3
      · exact e
    unfold goB eOf at hg
    unfold eOf at hf
    unfold goB eOf
    rw [e, k1]
    rw [g1] at hg
    exact ⟨hg, hf⟩
theorem setW_less (s : Ms) (t i : Nat) (a b : Nat) : (s.setW t i 0).wd a b = s.wd a b ∨ (s.setW t i 0).wd a b = 0 := by
  show (if a = t ∧ b = i then (0 : Int) else s.wd a b) = _ ∨ (if a = t ∧ b = i then (0 : Int) else s.wd a b) = 0
  split
  · exact .inr rfl
  · exact .inl rfl
theorem cutR_less {p : Int} {tabs : List Int} : ∀ (k : Nat) (s : Ms) (a b : Nat), (cutR p tabs k s).1.wd a b = s.wd a b ∨ (cutR p tabs k s).1.wd a b = 0 := by
  intro k
  induction k with
  | zero => intro s a b; exact setW_less _ _ _ _ _
  | succ k ih =>
    intro s a b
    unfold cutR
    split
    · rcases ih (s.setW (tabs.getD (k + 1) 0).toNat (index p (3 - (k + 1) : Nat)).toNat 0) a b with e | e
      · rw [e]
        exact setW_less _ _ _ _ _
      · exact .inr e
    · exact setW_less _ _ _ _ _
theorem remS_less (s : Ms) (r p : Int) (a b : Nat) : (remS s r p).wd a b = s.wd a b ∨ (remS s r p).wd a b = 0 := by
  unfold remS
  split
  · exact cutR_less _ _ _ _
  · exact .inl rfl
/-- Behind a Remove a table on the way to a page is there still; or it goes, and nothing is mapped there. -/
theorem rem_walk (hw : Wf s r gone (fun _ => False)) (hi : s.Inv) {p : Int} (hf : findC s r p = 0) {q t : Int} {d : Nat} (hq : InP q) (hd : d ≤ 3) (ht : tabD s r q d = some t) :
    tabD (remS s r p) r q d = some t ∨ (t ∈ remG s r p ∧ mapAt (remS s r p) r q = none) := by
  obtain ⟨w1, _, w3, _, w5, w6⟩ := rem_ok hw hi hf
  have hh : ∀ u, (remS s r p).has u = s.has u := fun u => by unfold Ms.has; rw [w3, w5]
  have htu := hw.nat hq hd ht
  have hu : (remS s r p).tk t.toNat = true := by rw [w5]; exact htu.2.2
  rcases (w1.use t.toNat).1 hu with hT | hG
  · rw [Int.toNat_of_nonneg htu.1] at hT
    obtain ⟨q', d', hq', hd', ht'⟩ := hT
    have h1 := tabD_less (remS_less s r p) hh d' t (by omega) ht'
    obtain ⟨e, hpre⟩ := hw.inj q' q d' d t hq' hq hd' hd h1 ht
    subst e
    left
    rw [← ht']
    exact tabD_prefix _ r hq hq' d' (by omega) hpre.symm
  · rw [Int.toNat_of_nonneg htu.1] at hG
    have hng : t ∉ gone := fun h => hw.gt t h ⟨q, d, hq, hd, ht⟩
    have hr : t ∈ remG s r p := by
      rw [List.mem_append, List.mem_reverse] at hG
      exact hG.resolve_right hng
    refine .inr ⟨hr, ?_⟩
    obtain ⟨m1, m2⟩ := w6 q hq
    by_cases ho : over (findM s r p) q = true
    · rw [m1, if_pos ho]
    · rw [m1, if_neg ho]
      cases hm : mapAt s r q with
      | none => rfl
      | some m =>
        exfalso
        have hway := m2 (by simpa using ho) (by rw [hm]; simp)
        obtain ⟨e, u, he⟩ := hw.ends q hq
        obtain ⟨e', u', he'⟩ := w1.ends q hq
        rw [way_ends hq.1 hq.2 he', way_ends hq.1 hq.2 he] at hway
        injection hway with _ htabs _ _
        have hl := congrArg List.length htabs
        rw [tabsD_len, tabsD_len] at hl
        obtain rfl : e' = e := by omega
        have hde : d ≤ e' := by
          rcases Nat.lt_or_ge e' d with h | h
          · have := tabD_none_mono (tabD_none he.tab he.no) d h
            rw [ht] at this; cases this
          · exact h
        obtain ⟨v, hv⟩ := tabD_some_mono he'.tab hde
        have hg := congrArg (fun l => l.getD d 0) htabs
        rw [tabsD_get hv (by omega), tabsD_get ht (by omega)] at hg
        subst hg
        exact w1.gt v (by rw [List.mem_append, List.mem_reverse]; exact .inl hr) ⟨q, d, hq, hd, hv⟩
/-- What stood in frames in use stands there behind a chain, but at its first place. -/
theorem chain_use {p lw : Int} {sz : Nat} : ∀ (n : Nat) (t : Int) (s : Ms), s.Inv → s.n ≤ 128 → sz + n ≤ 3 → (chain s p lw sz n t).n = s.n ∧ ∀ a b, s.tk a = true → (chain s p lw sz n t).tk a = true ∧ ((a = t.toNat ∧ b = (index p (sz + n : Nat)).toNat) ∨ (chain s p lw sz n t).wd a b = s.wd a b) := by
  intro n
  induction n with
  | zero =>
    intro t s _ _ _
    refine ⟨rfl, fun a b ha => ⟨ha, ?_⟩⟩
    show _ ∨ (if a = t.toNat ∧ b = (index p sz).toNat then lw else s.wd a b) = s.wd a b
    by_cases h : a = t.toNat ∧ b = (index p sz).toNat
    · exact .inl h
    · right; rw [if_neg h]
  | succ n ih =>
    intro t s hi hn hs
    unfold chain
    cases hk : s.top with
    | none => exact ⟨rfl, fun a b ha => ⟨ha, .inr rfl⟩⟩
    | some k =>
      dsimp only
      obtain ⟨k1, k2⟩ := Ms.top_lt hi hk
      have hI : ((s.take k).setW t.toNat (index p (sz + n + 1 : Nat)).toNat (tabW k (sz + n + 1))).Inv := (hi.take hk).setW _ _ (tabW_range (by omega) (by omega) (by omega) (by omega))
      obtain ⟨i1, i2⟩ := ih k _ hI hn (by omega)
      refine ⟨i1, fun a b ha => ?_⟩
      have hak : a ≠ k := by rintro rfl; rw [k2] at ha; cases ha
      have ha' : ((s.take k).setW t.toNat (index p (sz + n + 1 : Nat)).toNat (tabW k (sz + n + 1))).tk a = true := by
        show fput s.tk k true a = true
        rw [fput_ne _ _ hak]; exact ha
      obtain ⟨j1, j2⟩ := i2 a b ha'
      refine ⟨j1, ?_⟩
      rcases j2 with j2 | j2
      · have := j2.1
        simp at this
        exact absurd this hak
      · rw [j2]
        show _ ∨ (if a = t.toNat ∧ b = (index p (sz + n + 1 : Nat)).toNat then tabW k (sz + n + 1) else (if a = k then 0 else s.wd a b)) = s.wd a b
        by_cases h : a = t.toNat ∧ b = (index p (sz + n + 1 : Nat)).toNat
        · exact .inl h
        · right; rw [if_neg h, if_neg hak]
/-- Behind an Insert a table on the way to a page is there still. -/
theorem ins_walk (hw : Wf s r gone (fun _ => False)) (hi : s.Inv) (hn : s.n ≤ 128) (x : Mp) {q t : Int} {d : Nat} (hq : InP q) (hd : d ≤ 3) (ht : tabD s r q d = some t) : tabD (insS s r x) r q d = some t := by
  unfold insS
  by_cases hc : insC s r x = 0
  · rw [if_pos hc]
    unfold insC at hc
    by_cases hk : check x = 0
    · have hx := mapOk_of hk
      have hp := hx.inP
      have hwc := (wayE_map hw hp).1
      rw [if_neg (by omega), if_neg (by rw [hwc]; simp)] at hc
      by_cases h : (way s r x.page).e.there = true ∨ (way s r x.page).lev < x.size
      · rw [if_pos h] at hc; cases hc
      rw [not_or] at h
      obtain ⟨d0, t0, he⟩ := hw.ends _ hp
      have hle := he.le
      rw [way_ends hp.1 hp.2 he] at h ⊢
      dsimp only at h ⊢
      obtain ⟨z, hz, hz3⟩ : ∃ z : Nat, x.size = z ∧ z < 3 := by
        rcases hx.size with ⟨a, _⟩ | ⟨a, _⟩ | ⟨a, _⟩
        · exact ⟨0, a, by omega⟩
        · exact ⟨1, a, by omega⟩
        · exact ⟨2, a, by omega⟩
      rw [tabsD_last he.tab]
      rw [hz] at h ⊢
      have ht0 : (eOf s x.page t0 (3 - d0)).there = false := by simpa using h.1
      have hz0 := (he.not ht0).2
      have e1 : (z : Int).toNat = z := by omega
      have e2 : (((3 - d0 : Nat) : Int) - (z : Int)).toNat = 3 - d0 - z := by omega
      rw [e1, e2]
      have hzd : z ≤ 3 - d0 := by have := h.2; omega
      have hsum : z + (3 - d0 - z) = 3 - d0 := by omega
      obtain ⟨c1, c2⟩ := chain_use (p := x.page) (lw := encW (leafE x) z) (sz := z) (3 - d0 - z) t0 s hi hn (by omega)
      rw [hsum] at c2
      have hpi := index_range hp (show 3 - d0 ≤ 3 by omega)
      refine tabD_more (fun u i hu hi0 => ?_) hq d t (by omega) ht
      obtain ⟨u0, u1, u2⟩ := Ms.has_iff.1 hu
      obtain ⟨j1, j2⟩ := c2 u.toNat i.toNat u2
      refine ⟨Ms.has_iff.2 ⟨u0, by rw [c1]; exact u1, j1⟩, ?_⟩
      rcases j2 with ⟨a, b⟩ | j2
      · left
        have htu := (hw.nat hp he.le he.tab).1
        obtain rfl : u = t0 := by omega
        obtain rfl : i = index x.page (3 - d0 : Nat) := by omega
        exact hz0
      · exact .inr j2
    · rw [if_pos hk] at hc; exact absurd hc hk
  · rw [if_neg hc]; exact ht
/-- Frames that are given back one after the other. -/
theorem giveL_use : ∀ (l : List Int) (s : Ms), s.Inv → (giveL s l).Inv ∧ (giveL s l).n = s.n ∧ (giveL s l).wd = s.wd ∧ ∀ a : Nat, (giveL s l).tk a = true ↔ s.tk a = true ∧ (a : Int) ∉ l := by
  intro l
  induction l with
  | nil => intro s hi; exact ⟨hi, rfl, rfl, fun a => by simp [giveL]⟩
  | cons k l ih =>
    intro s hi
    show (giveL (s.giveS k) l).Inv ∧ _
    cases hk : s.has k with
    | true =>
      have e : s.giveS k = s.give k.toNat := by unfold Ms.giveS; rw [if_pos hk]
      rw [show giveL s (k :: l) = giveL (s.give k.toNat) l by rw [← e]; rfl, e]
      obtain ⟨k0, k1, k2⟩ := Ms.has_iff.1 hk
      obtain ⟨i1, i2, i3, i4⟩ := ih (s.give k.toNat) (hi.give k2)
      refine ⟨i1, i2, i3, fun a => ?_⟩
      rw [i4 a]
      show fput s.tk k.toNat false a = true ∧ _ ↔ _
      by_cases h : a = k.toNat
      · subst h
        rw [fput_self]
        have : ((k.toNat : Nat) : Int) = k := by omega
        rw [this]
        simp
      · rw [fput_ne _ _ h]
        have : (a : Int) ≠ k := by omega
        simp [this]
    | false =>
      have e : s.giveS k = s := by unfold Ms.giveS; rw [if_neg (by rw [hk]; simp)]
      rw [e, show giveL s (k :: l) = giveL s l from (congrArg (fun x => giveL x l) e : giveL (s.giveS k) l = giveL s l)]
      obtain ⟨i1, i2, i3, i4⟩ := ih s hi
      refine ⟨i1, i2, i3, fun a => ?_⟩
      rw [i4 a]
      constructor
      · rintro ⟨a1, a2⟩
        refine ⟨a1, fun hm => ?_⟩
        rcases List.mem_cons.1 hm with h | h
        · have hl := hi.tkl a a1
          have hle := hi.le
          rw [← h] at hk
          rw [Ms.has_nat hi, a1] at hk
          cases hk
        · exact a2 h
      · rintro ⟨a1, a2⟩
        exact ⟨a1, fun hm => a2 (List.mem_cons_of_mem _ hm)⟩
/-- What goes was given back: ways are as they were. -/
theorem give_tab (hw : Wf s r gone X) (hi : s.Inv) {q : Int} (hq : InP q) : ∀ d, d ≤ 4 → tabD (giveL s gone) r q d = tabD s r q d := by
  obtain ⟨_, g2, g3, g4⟩ := giveL_use gone s hi
  intro d
  induction d with
  | zero => intro _; rfl
  | succ d ih =>
    intro hd
    show (tabD (giveL s gone) r q d).bind _ = (tabD s r q d).bind _
    rw [ih (by omega)]
    cases hu : tabD s r q d with
    | none => rfl
    | some u =>
      simp only [Option.bind_some]
      have hh : (giveL s gone).has u = s.has u := by
        rw [Bool.eq_iff_iff, Ms.has_iff, Ms.has_iff, g2, g4]
        constructor
        · rintro ⟨a, b, c, _⟩; exact ⟨a, b, c⟩
        · rintro ⟨a, b, c⟩
          refine ⟨a, b, c, fun hm => ?_⟩
          rw [Int.toNat_of_nonneg a] at hm
          exact hw.gt u hm ⟨q, d, hq, by omega, hu⟩
      unfold goB eOf wordV
      rw [hh, g3]
theorem give_ends (hw : Wf s r gone X) (hi : s.Inv) {q t : Int} {d : Nat} (hq : InP q) (he : Ends s r q d t) : Ends (giveL s gone) r q d t ∧ eOf (giveL s gone) q t (3 - d) = eOf s q t (3 - d) := by
  obtain ⟨_, g2, g3, g4⟩ := giveL_use gone s hi
  have hw' : ∀ i, wordV (giveL s gone) t i = wordV s t i := fun i => by unfold wordV; rw [g3]
  have hh : (giveL s gone).has t = true := by
    obtain ⟨a, b, c⟩ := Ms.has_iff.1 he.use
    refine Ms.has_iff.2 ⟨a, by rw [g2]; exact b, (g4 _).2 ⟨c, fun hm => ?_⟩⟩
    rw [Int.toNat_of_nonneg a] at hm
    exact hw.gt t hm ⟨q, d, hq, he.le, he.tab⟩
  refine ⟨⟨he.le, (give_tab hw hi hq d (by have := he.le; omega)).trans he.tab, hh, by rw [hw']; exact he.dec, ?_⟩, by unfold eOf; rw [hw']⟩
  have := he.no
  unfold goB eOf at this ⊢
  rw [hw', hh]
  rw [he.use] at this
  exact this
theorem give_way (hw : Wf s r gone X) (hi : s.Inv) {q : Int} (hq : InP q) : way (giveL s gone) r q = way s r q := by
  obtain ⟨d, t, he⟩ := hw.ends q hq
  obtain ⟨h1, h2⟩ := give_ends hw hi hq he
  rw [way_ends hq.1 hq.2 h1, way_ends hq.1 hq.2 he, h2]
  have : tabsD (giveL s gone) r q (d + 1) = tabsD s r q (d + 1) := by
    unfold tabsD
    refine List.map_congr_left fun x hx => ?_
    rw [give_tab hw hi hq x (by have := List.mem_range.1 hx; have := he.le; omega)]
  rw [this]
theorem give_inT (hw : Wf s r gone X) (hi : s.Inv) (t : Int) : InT (giveL s gone) r t ↔ InT s r t := by
  constructor
  · rintro ⟨q, d, hq, hd, h⟩; exact ⟨q, d, hq, hd, by rw [← give_tab hw hi hq d (by omega)]; exact h⟩
  · rintro ⟨q, d, hq, hd, h⟩; exact ⟨q, d, hq, hd, by rw [give_tab hw hi hq d (by omega)]; exact h⟩
theorem Wf.give (hw : Wf s r gone X) (hi : s.Inv) : Wf (giveL s gone) r [] X := by
  obtain ⟨_, g2, g3, g4⟩ := giveL_use gone s hi
  refine ⟨fun p hp => ?_, fun p q d e t hp hq hd he h1 h2 => ?_, fun p d t hp hd h => ?_, fun k => ?_, List.nodup_nil, fun g hg => (by cases hg), fun g hg => (by cases hg)⟩
  · obtain ⟨d, t, he⟩ := hw.ends p hp
    exact ⟨d, t, (give_ends hw hi hp he).1⟩
  · rw [give_tab hw hi hp d (by omega)] at h1
    rw [give_tab hw hi hq e (by omega)] at h2
    exact hw.inj p q d e t hp hq hd he h1 h2
  · rw [give_tab hw hi hp (d + 1) (by omega)] at h
    have := hw.full p d t hp hd h
    unfold wordV at this ⊢
    rw [g3]
    exact this
  · rw [g4 k, hw.use k, give_inT hw hi]
    constructor
    · rintro ⟨a | a, b⟩
      · exact .inl a
      · exact absurd a b
    · rintro (a | a)
      · exact ⟨.inl a, fun hm => hw.gt _ hm a⟩
      · cases a
end
end Go.Proofs.Ytegkimecdonfgaa
namespace Go.Proofs.Ytegkimecdonfgaa
open Go.RowKit
theorem Bk.find_iff {L : List Mp} (h : Bk.Ok L) {q : Int} {m : Mp} : Bk.find L q = some m ↔ m ∈ L ∧ over m q = true := by
  constructor
  · exact Bk.find_mem
  · rintro ⟨hm, ho⟩
    obtain ⟨k, hk, rfl⟩ := List.getElem_of_mem hm
    exact (Bk.over_at h hk ho).2
section
variable {s : Ms} {r : Int} {gone : List Int} {X : Int → Prop} {L : List Mp}
theorem lk_code (hw : Wf s r gone (fun _ => False)) (hL : Lk s r L) (p : Int) : findC s r p = Bk.dropC L p ∧ findM s r p = (Bk.dropR L p).getD Mp.zero := by
  unfold Bk.dropC Bk.dropR
  by_cases hp : InP p
  · have hB : hasB p = true := by unfold hasB; rw [decide_eq_true hp.1, decide_eq_true hp.2]; rfl
    rw [if_pos hB, if_pos hB, hL.same p hp]
    exact hw.find hp
  · have hB : ¬ hasB p = true := by
      unfold hasB
      rw [Bool.and_eq_true, decide_eq_true_eq, decide_eq_true_eq]
      exact hp
    rw [if_neg hB, if_neg hB]
    have := find_out (s := s) (r := r) hp
    have hc : findC s r p = 1 := by unfold findC; rw [this]; rfl
    refine ⟨hc, ?_⟩
    unfold findM
    rw [if_neg (by rw [hc]; decide)]
    rfl
theorem lk_ins (hw : Wf s r gone (fun _ => False)) (hi : s.Inv) (hn : s.n ≤ 128) (hL : Lk s r L) {x : Mp} (hc : insC s r x = 0) : Lk (insS s r x) r (Bk.add L x) ∧ Bk.addC L x = 0 := by
  have hac : Bk.addC L x = 0 := by
    rcases ins_code hw hL x with h | h
    · rw [hc] at h; cases h.1
    · rw [← h]; exact hc
  refine ⟨?_, hac⟩
  unfold Bk.addC at hac
  by_cases hk : check x = 0
  · rw [if_neg (by simpa using hk)] at hac
    have hx := mapOk_of hk
    have hb : Bk.bad L x = false := by
      cases hb : Bk.bad L x with
      | false => rfl
      | true => rw [hb, if_pos rfl] at hac; cases hac
    have hadd : Bk.add L x = Bk.ins L x := by unfold Bk.add; rw [if_pos ⟨hk, hb⟩]
    have hok : Bk.Ok (Bk.ins L x) := hL.ok.ins hx hb
    rw [hadd]
    obtain ⟨_, _, _, w4⟩ := ins_ok hw hi hn x
    refine ⟨hok, fun q hq => ?_⟩
    rw [(w4 q hq).1, ← hL.same q hq]
    refine Option.ext fun m => ?_
    rw [Bk.find_iff hok, Bk.mem_ins]
    by_cases ho : over x q = true
    · rw [if_pos ⟨hc, ho⟩]
      constructor
      · rintro ⟨rfl | hm, h2⟩
        · rfl
        · have := meet_of (hL.ok.chk m hm) hx h2 ho
          rw [Bk.bad_false hb m hm] at this
          cases this
      · intro h
        injection h with h
        subst h
        exact ⟨.inl rfl, ho⟩
    · rw [if_neg (fun h => ho h.2), Bk.find_iff hL.ok]
      constructor
      · rintro ⟨rfl | hm, h2⟩
        · exact absurd h2 ho
        · exact ⟨hm, h2⟩
      · rintro ⟨hm, h2⟩
        exact ⟨.inr hm, h2⟩
  · rw [if_pos hk] at hac
    exact absurd hac hk
theorem lk_found (hw : Wf s r gone (fun _ => False)) (hL : Lk s r L) {p : Int} (hf : findC s r p = 0) : InP p ∧ hasB p = true ∧ Bk.find L p = some (findM s r p) ∧ findM s r p ∈ L ∧ over (findM s r p) p = true := by
  have hp := find_zero hf
  have hB : hasB p = true := by unfold hasB; rw [decide_eq_true hp.1, decide_eq_true hp.2]; rfl
  obtain ⟨d, t, he, hl, hwe, hm, h3, ho⟩ := hw.found hf
  have := (hL.same p hp).trans hm
  exact ⟨hp, hB, this, Bk.find_mem this⟩
theorem lk_rem (hw : Wf s r gone (fun _ => False)) (hi : s.Inv) (hL : Lk s r L) {p : Int} (hf : findC s r p = 0) : Lk (remS s r p) r (Bk.dropL L p) := by
  obtain ⟨hp, hB, h1, h2, h3⟩ := lk_found hw hL hf
  have hd : Bk.dropL L p = Bk.del L p := by unfold Bk.dropL; rw [if_pos hB]
  have hok : Bk.Ok (Bk.del L p) := hL.ok.del p
  rw [hd]
  obtain ⟨_, _, _, _, _, w6⟩ := rem_ok hw hi hf
  generalize findM s r p = M at *
  refine ⟨hok, fun q hq => ?_⟩
  rw [(w6 q hq).1, ← hL.same q hq]
  refine Option.ext fun m => ?_
  have one : ∀ m, m ∈ L → over m p = true → m = M := fun m hm ho => by
    have := (Bk.find_iff hL.ok).2 ⟨hm, ho⟩
    rw [h1] at this
    injection this with this
    exact this.symm
  rw [Bk.find_iff hok]
  unfold Bk.del
  rw [List.mem_filter]
  by_cases ho : over M q = true
  · rw [if_pos ho]
    constructor
    · rintro ⟨⟨hm, hn⟩, hq'⟩
      have e1 := (Bk.find_iff hL.ok).2 ⟨hm, hq'⟩
      have e2 := (Bk.find_iff hL.ok).2 ⟨h2, ho⟩
      rw [e1] at e2
      injection e2 with e2
      subst e2
      rw [h3] at hn
      cases hn
    · intro h; cases h
  · rw [if_neg ho, Bk.find_iff hL.ok]
    constructor
    · rintro ⟨⟨hm, _⟩, hq'⟩; exact ⟨hm, hq'⟩
    · rintro ⟨hm, hq'⟩
      refine ⟨⟨hm, ?_⟩, hq'⟩
      cases hov : over m p with
      | false => rfl
      | true =>
        rw [one m hm hov] at hq'
        exact absurd hq' ho
theorem lk_pr (hw : Wf s r gone (fun _ => False)) (hi : s.Inv) (hL : Lk s r L) {p ri : Int} (hf : prC s r p ri = 0) : Lk (prS s r p ri) r (Bk.protL L p ri) := by
  have hr : 0 ≤ ri ∧ ri ≤ 7 := by
    unfold prC at hf
    split at hf
    · cases hf
    · omega
  have hf0 : findC s r p = 0 := by
    unfold prC at hf
    rw [if_neg (by omega)] at hf
    exact hf
  obtain ⟨hp, hB, h1, h2, h3⟩ := lk_found hw hL hf0
  have hd : Bk.protL L p ri = Bk.prot L p ri := by unfold Bk.protL; rw [if_pos (Bk.protB_iff.2 ⟨hp.1, hp.2, hr.1, hr.2⟩)]
  have hok : Bk.Ok (Bk.prot L p ri) := hL.ok.prot p hr.1 hr.2
  rw [hd]
  obtain ⟨_, _, _, _, _, w6⟩ := pr_ok hw hi hf
  generalize findM s r p = M at *
  refine ⟨hok, fun q hq => ?_⟩
  refine Option.ext fun m => ?_
  have one : ∀ m, m ∈ L → over m p = true → m = M := fun m hm ho => by
    have := (Bk.find_iff hL.ok).2 ⟨hm, ho⟩
    rw [h1] at this
    injection this with this
    exact this.symm
  have oneq : over M q = true → ∀ m, m ∈ L → over m q = true → m = M := fun hq' m hm ho => by
    have e1 := (Bk.find_iff hL.ok).2 ⟨hm, ho⟩
    have e2 := (Bk.find_iff hL.ok).2 ⟨h2, hq'⟩
    rw [e1] at e2
    injection e2
  rw [Bk.find_iff hok]
  unfold Bk.prot
  rw [List.mem_map]
  by_cases ho : over M q = true
  · rw [((w6 q hq).1 ho).2.1]
    constructor
    · rintro ⟨⟨y, hy, rfl⟩, hq'⟩
      have e : y = M := by
        by_cases hyp : over y p = true
        · exact one y hy hyp
        · rw [if_neg hyp] at hq'
          exact oneq ho y hy hq'
      subst e
      rw [if_pos h3]
    · intro h
      injection h with h
      subst h
      exact ⟨⟨M, h2, by rw [if_pos h3]⟩, ho⟩
  · have e := (w6 q hq).2 (by simpa using ho)
    rw [mapAt_way e, ← hL.same q hq, Bk.find_iff hL.ok]
    constructor
    · rintro ⟨⟨y, hy, rfl⟩, hq'⟩
      by_cases hyp : over y p = true
      · rw [if_pos hyp, one y hy hyp] at hq'
        exact absurd hq' ho
      · rw [if_neg hyp] at hq' ⊢
        exact ⟨hy, hq'⟩
    · rintro ⟨hm, hq'⟩
      have hn : ¬ over m p = true := fun hov => by
        rw [one m hm hov] at hq'
        exact ho hq'
      exact ⟨⟨m, hm, by rw [if_neg hn]⟩, hq'⟩
end
end Go.Proofs.Ytegkimecdonfgaa
namespace Go.Proofs.Ytegkimecdonfgaa
open Go.RowKit
def ansM (o : Option Mp) (a : Ac) : An := match o with | none => ⟨1, 0, 0⟩ | some m => answer m a
/-- A walk stands in a table on its way. -/
def OnTree (s : Ms) (r : Int) (k : Ck) : Prop := ∃ d : Nat, d ≤ 3 ∧ k.level = ((3 - d : Nat) : Int) ∧ tabD s r k.a.page d = some k.t
/-- A walk stands in a table that goes, and nothing is mapped at its page. -/
def Lost (s : Ms) (r : Int) (gone : List Int) (k : Ck) : Prop := k.t ∈ gone ∧ mapAt s r k.a.page = none
/-- Marks alone may be others. -/
structure Marked (s s' : Ms) (r : Int) : Prop where
  n : s'.n = s.n
  tk : ∀ u, s'.tk u = s.tk u
  fr : s'.frees = s.frees
  tab : ∀ q, InP q → ∀ d, d ≤ 4 → tabD s' r q d = tabD s r q d
  map : ∀ q, InP q → mapAt s' r q = mapAt s r q
  lev : ∀ q, InP q → (way s' r q).lev = (way s r q).lev
  used : ∀ q, InP q → (way s r q).e.used = true → (way s' r q).e.used = true
  dirty : ∀ q, InP q → (way s r q).e.dirty = true → (way s' r q).e.dirty = true
theorem Marked.refl (s : Ms) (r : Int) : Marked s s r := ⟨rfl, fun _ => rfl, rfl, fun _ _ _ _ => rfl, fun _ _ => rfl, fun _ _ => rfl, fun _ _ h => h, fun _ _ h => h⟩
/-- A line that is kept says what is mapped. -/
structure Kept (s : Ms) (r : Int) (x : Ln) : Prop where
  inP : InP x.m.page
  map : mapAt s r x.m.page = some x.m
  used : (way s r x.m.page).e.used = true
  dirty : x.dirty = true → (way s r x.m.page).e.dirty = true
theorem Kept.mark {s s' : Ms} {r : Int} {x : Ln} (h : Kept s r x) (m : Marked s s' r) : Kept s' r x :=
  ⟨h.inP, (m.map _ h.inP).trans h.map, m.used _ h.inP h.used, fun d => m.dirty _ h.inP (h.dirty d)⟩
theorem OnTree.mark {s s' : Ms} {r : Int} {k : Ck} (hp : InP k.a.page) (h : OnTree s r k) (m : Marked s s' r) : OnTree s' r k := by
  obtain ⟨d, hd, hl, ht⟩ := h
  exact ⟨d, hd, hl, (m.tab _ hp d (by omega)).trans ht⟩
theorem Lost.mark {s s' : Ms} {r : Int} {gone : List Int} {k : Ck} (hp : InP k.a.page) (h : Lost s r gone k) (m : Marked s s' r) : Lost s' r gone k := ⟨h.1, (m.map _ hp).trans h.2⟩
theorem check_inP {a : Ac} (h : checkAccess a = 0) : InP a.page := by
  have := check_has h
  unfold hasB at this
  simp at this
  exact this
section
variable {s : Ms} {r : Int} {gone : List Int} {X : Int → Prop}
/-- All pages of a mapping have its entry. -/
theorem entry_over (hw : Wf s r gone X) {p q : Int} {m : Mp} (hp : InP p) (hq : InP q) (hm : mapAt s r p = some m) (ho : over m q = true) : (way s r q).e = (way s r p).e ∧ (way s r q).lev = (way s r p).lev := by
  obtain ⟨d, t, he⟩ := hw.ends p hp
  rw [mapAt_ends hp he] at hm
  split at hm
  · rename_i hl
    injection hm with hm
    obtain ⟨h3, _, hov⟩ := he.map hp hl
    rw [← hm, hov q] at ho
    obtain ⟨hs, hse⟩ := he.same hp hq (of_decide_eq_true ho)
    rw [way_ends hq.1 hq.2 hs, way_ends hp.1 hp.2 he, hse]
    exact ⟨rfl, rfl⟩
  · cases hm
theorem map_page (hw : Wf s r gone X) {p : Int} {m : Mp} (hp : InP p) (hm : mapAt s r p = some m) : InP m.page ∧ over m m.page = true ∧ mapAt s r m.page = some m := by
  obtain ⟨h1, h2⟩ := hw.self hp hm
  have hi := h2.inP
  have ho : over m m.page = true := over_iff.2 ⟨by omega, by have := h2.sp; omega⟩
  exact ⟨hi, ho, Wf.overMap hw hp hi hm ho hw⟩
theorem again_tree (s : Ms) (r : Int) {k : Ck} (hon : k.on = true) : OnTree s r (k.again r) ∧ (k.again r).a = k.a ∧ (k.again r).on = true := by
  unfold Ck.again
  rw [if_pos hon]
  exact ⟨⟨0, by omega, rfl, rfl⟩, rfl, hon⟩
/-- What marks do to a tree. -/
theorem mark_tree (hw : Wf s r gone (fun _ => False)) (hi : s.Inv) {p t : Int} {d : Nat} (hp : InP p) (he : Ends s r p d t) (hl : (eOf s p t (3 - d)).leaf = true) (a : Ac) :
    Wf (putAt s p t d (encW (markE (eOf s p t (3 - d)) a) (3 - d : Nat))) r gone (fun _ => False) ∧ (putAt s p t d (encW (markE (eOf s p t (3 - d)) a) (3 - d : Nat))).Inv ∧
      Marked s (putAt s p t d (encW (markE (eOf s p t (3 - d)) a) (3 - d : Nat))) r ∧ (way (putAt s p t d (encW (markE (eOf s p t (3 - d)) a) (3 - d : Nat))) r p).e = markE (eOf s p t (3 - d)) a := by
  have hef := (enc_dec he.dec).1
  have hef : entFault (eOf s p t (3 - d)) ((3 - d : Nat) : Int) = 0 := hef
  obtain ⟨hf', hl'⟩ := mark_ok a hef hl
  obtain ⟨w1, w2, w3⟩ := leaf_ok hw hi hp he hf' hl'
  obtain ⟨k1, k2, _⟩ := dec_enc hf'
  have hv : stopW (encW (markE (eOf s p t (3 - d)) a) (3 - d : Nat)) (3 - d) := ⟨k1, by rw [k2, hl']; simp⟩
  refine ⟨w1, w2, ⟨rfl, fun _ => rfl, rfl, fun q hq e hle => put_tab hw hp he.le he.tab he.no hv hq e hle, fun q hq => ?_, fun q hq => ?_, fun q hq => ?_, fun q hq => ?_⟩, ?_⟩
  · have := w3 q hq
    split at this
    · unfold mapAt
      rw [this.1, this.2]
      dsimp only
      rw [hl', hl, leafMap_mark a hef hl]
    · exact mapAt_way this
  · have := w3 q hq
    split at this
    · rw [this.1, this.2]
    · rw [this]
  · have := w3 q hq
    split at this
    · rw [this.1, this.2]
      intro _; rfl
    · rw [this]; exact id
  · have := w3 q hq
    split at this
    · rw [this.1, this.2]
      dsimp only
      intro h
      unfold markE
      dsimp only
      rw [h]; rfl
    · rw [this]; exact id
  · have := w3 p hp
    rw [if_pos rfl] at this
    rw [this.1]
end
section
variable {s : Ms} {r : Int} {gone : List Int} {X : Int → Prop}
theorem Wf.perm {g : List Int} (hw : Wf s r gone X) (h : ∀ t, t ∈ g ↔ t ∈ gone) (nd : g.Nodup) : Wf s r g X :=
  ⟨hw.ends, hw.inj, hw.full, fun k => by rw [hw.use k, h], nd, fun t ht => hw.gz t ((h t).1 ht), fun t ht => hw.gt t ((h t).1 ht)⟩
theorem pr_walk (hw : Wf s r gone (fun _ => False)) {p ri : Int} (hf : prC s r p ri = 0) {q : Int} (hq : InP q) : ∀ e, e ≤ 4 → tabD (prS s r p ri) r q e = tabD s r q e := by
  have hr : 0 ≤ ri ∧ ri ≤ 7 := by
    unfold prC at hf
    split at hf
    · cases hf
    · omega
  have hf0 : findC s r p = 0 := by
    unfold prC at hf
    rw [if_neg (by omega)] at hf
    exact hf
  have hp := find_zero hf0
  obtain ⟨d, t, he, hl, hwe, hm, h3, ho⟩ := hw.found hf0
  have hef : entFault (eOf s p t (3 - d)) ((3 - d : Nat) : Int) = 0 := (enc_dec he.dec).1
  have hf' : entFault { eOf s p t (3 - d) with rights := ri } (3 - d : Nat) = 0 := rights_ok hef hl hr.1 hr.2
  have es : prS s r p ri = putAt s p t d (encW { eOf s p t (3 - d) with rights := ri } (3 - d : Nat)) := by
    unfold prS
    rw [if_pos hf, hwe]
    dsimp only
    rw [tabsD_last he.tab]
  obtain ⟨k1, k2, _⟩ := dec_enc hf'
  have hv : stopW (encW { eOf s p t (3 - d) with rights := ri } (3 - d : Nat)) (3 - d) := ⟨k1, by rw [k2]; dsimp only; rw [hl]; simp⟩
  rw [es]
  exact fun e he' => put_tab hw hp he.le he.tab he.no hv hq e he'
end
end Go.Proofs.Ytegkimecdonfgaa
