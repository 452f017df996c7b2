/- Contracts of package core, against the plain lines and the plain walk: New, Busy, Access, Told. -/
import Derived.Test.YtndhgomikpokpaaCoreM
import Derived.Test.YtndhgomikpokpaaTl
import Derived.Test.YtndhgomikpokpaaWkr4
import Derived.Test.YtndhgomikpokpaaCoreS2
import Derived.BigQuiet
import Derived.Deep.RegionHeld3
import Derived.Deep.DeepCutAuto
import Derived.Test.YtndhgomikpokpaaCoreS5
namespace Go.Proofs.Ytndhgomikpokpaa
open Go.RowKit
set_option maxRecDepth 100000

def pcAt (b : Nat) (l : List Ln) (root : Int) (k : Ck) : HProp := ex fun t => ex fun v => blk b #[.pointer (some ⟨t, 0, none⟩), .pointer (some ⟨v, 0, none⟩)] 140 * (tlbAt t l * walkerAt v root k)
theorem pcAt_open {b : Nat} {l : List Ln} {root : Int} {k : Ck} {R : HProp} {w : World} (h : Has w (pcAt b l root k * R)) :
    ∃ t v, Has w (blk b #[.pointer (some ⟨t, 0, none⟩), .pointer (some ⟨v, 0, none⟩)] 140 * (tlbAt t l * (walkerAt v root k * R))) := by
  unfold pcAt at h
  obtain ⟨t, h⟩ := has_ex_star.1 h
  obtain ⟨v, h⟩ := has_ex_star.1 h
  exact ⟨t, v, h.eq (by ac_rfl)⟩
theorem pcAt_shut {b t v : Nat} {l : List Ln} {root : Int} {k : Ck} {R : HProp} {w : World} (h : Has w (blk b #[.pointer (some ⟨t, 0, none⟩), .pointer (some ⟨v, 0, none⟩)] 140 * (tlbAt t l * (walkerAt v root k * R)))) : Has w (pcAt b l root k * R) := by
  unfold pcAt
  exact has_ex_star.2 ⟨t, has_ex_star.2 ⟨v, h.eq (by ac_rfl)⟩⟩

theorem newC (root : Int) (R : HProp) (w : World) (h : Has w R) : Calls Try.prog 74 #[(Value.int .i64) root] w fun e w' => ∃ b, Res (.pointer (some ⟨b, 0, none⟩)) (pcAt b [] root Ck.zero * R) w e w' := by
  go_enter Try.func74, Try.ntmps74
  go_wp2_with fail
  refine (newT _ _ h).mono ?_; rintro e w2 ⟨t, rfl, h2, x2⟩
  go_wp2_with fail
  refine (newW root _ _ h2).mono ?_; rintro e w3 ⟨v, rfl, h3, x3⟩
  have h4 := pcAt_shut ((h3.new #[.pointer (some ⟨t, 0, none⟩), .pointer (some ⟨v, 0, none⟩)] 140).eq (show _ = blk w3.heap.size #[.pointer (some ⟨t, 0, none⟩), .pointer (some ⟨v, 0, none⟩)] 140 * (tlbAt t [] * (walkerAt v root Ck.zero * R)) by ac_rfl))
  have x4 := (x2.trans x3).alloc (.cells #[.pointer (some ⟨t, 0, none⟩), .pointer (some ⟨v, 0, none⟩)] 140)
  go_wp2_with fail
  go_ret
  exact ⟨_, rfl, h4, x4⟩
theorem busyC (b : Nat) (l : List Ln) (root : Int) (k : Ck) (R : HProp) (w : World) (h : Has w (pcAt b l root k * R)) : Calls Try.prog 84 #[.pointer (some ⟨b, 0, none⟩)] w (Same (Value.bool k.on) w) := by
  obtain ⟨t, v, h⟩ := pcAt_open h
  obtain ⟨c0, c1⟩ := h.cells2
  have cl := h.lt
  have HO := Lib.hid (onW v root k _ _ h.right.p2)
  clear h
  go_enter Try.func84, Try.ntmps84
  go_wp2_with (refine HO.out.mono ?_; rintro e w2 ⟨rfl, rfl⟩)
  go_ret
  exact ⟨rfl, rfl⟩
theorem accessC (b : Nat) (l : List Ln) (root : Int) (k : Ck) (R : HProp) (w : World) (h : Has w (pcAt b l root k * R)) : Calls Try.prog 85 #[.pointer (some ⟨b, 0, none⟩)] w (Pure (.agg #[(Value.int .i64) k.a.page, (Value.int .i64) k.a.kind, Value.bool k.a.user]) w) := by
  obtain ⟨t, v, h⟩ := pcAt_open h
  have h1 := (has_old w).new #[(Value.int .i64) 0, (Value.int .i64) 0, Value.bool false] 29
  have hw := h.alloc (.cells #[(Value.int .i64) 0, (Value.int .i64) 0, Value.bool false] 29)
  have x1 := (Ext.refl w).alloc (.cells #[(Value.int .i64) 0, (Value.int .i64) 0, Value.bool false] 29)
  have HA := Lib.hid (fun R X h => accessW v root k R X h)
  obtain ⟨c0, c1⟩ := hw.cells2
  have cl := hw.lt
  clear h
  go_enter Try.func85, Try.ntmps85
  go_wp2_with fail
  refine (HA.out _ _ (hw.right.right)).mono ?_; rintro e w2 ⟨rfl, b2⟩
  have h2 := h1.below b2
  have x2 := x1.below b2
  obtain ⟨r0, r1, r2⟩ := h2.cells3
  obtain ⟨g0, g1, g2⟩ := h2.frees3
  have rl := h2.lt
  go_wp2_with fail
  refine ret_via (fun wz => Has wz (blk w.heap.size #[(Value.int .i64) k.a.page, (Value.int .i64) k.a.kind, Value.bool k.a.user] 29 * (old w w.heap.size)) ∧ Ext w wz) ⟨h2.set3 _ _ _, by (repeat (first | with_reducible assumption | with_reducible exact Ext.refl _ | with_reducible refine Ext.set ?_ _ _ | with_reducible refine Ext.alloc ?_ _ | with_reducible refine Ext.drew ?_ | with_reducible refine Ext.drewN ?_ _ | assumption | exact Ext.refl _ | refine Ext.alloc ?_ _ | refine Ext.set ?_ _ _ | refine Ext.drew ?_ | refine Ext.drewN ?_ _ | refine Ext.below ?_ (by assumption) | refine Ext.trans ?_ (by assumption)))⟩ ?_
  rintro wz ⟨hz, xz⟩
  exact bodyPost_ret (results_c Try.results85 rfl (load_access hz)) rfl ⟨rfl, below_of1 hz.right xz⟩
set_option maxHeartbeats 2000000 in
theorem toldC (b : Nat) (l : List Ln) (root : Int) (k : Ck) (m : Mp) (hl : Tl.Ok l) (hm : i64 m.page) (R : HProp) (w : World) (h : Has w (pcAt b l root k * R)) :
    Calls Try.prog 79 #[.pointer (some ⟨b, 0, none⟩), .agg #[(Value.int .i64) m.page, (Value.int .i64) m.size, (Value.int .i64) m.frame, (Value.int .i64) m.rights]] w (Res (.tuple #[]) (pcAt b (Tl.drop l m) root (k.again root) * R) w) := by
  obtain ⟨t, v, h⟩ := pcAt_open h
  have h1 : Has _ (tlbAt t l * (blk b #[.pointer (some ⟨t, 0, none⟩), .pointer (some ⟨v, 0, none⟩)] 140 * (blk w.heap.size #[(Value.int .i64) m.page, (Value.int .i64) m.size, (Value.int .i64) m.frame, (Value.int .i64) m.rights] 27 * (walkerAt v root k * R)))) := (h.new #[(Value.int .i64) m.page, (Value.int .i64) m.size, (Value.int .i64) m.frame, (Value.int .i64) m.rights] 27).eq (by ac_rfl)
  have x1 := (Ext.refl w).alloc (.cells #[(Value.int .i64) m.page, (Value.int .i64) m.size, (Value.int .i64) m.frame, (Value.int .i64) m.rights] 27)
  have HD := Lib.hid (fun R X h => dropT t l m R X hl.lok hm h)
  have HA := Lib.hid (fun R X h => againW v root k R X h)
  clear h hl hm
  go_enter Try.func79, Try.ntmps79
  go_upto_region 1 with fail
  generalize w.alloc (.cells #[(Value.int .i64) m.page, (Value.int .i64) m.size, (Value.int .i64) m.frame, (Value.int .i64) m.rights] 27) = w1 at *
  generalize w.heap.size = X at *
  obtain ⟨c0, c1⟩ := h1.right.cells2
  have cl := h1.right.lt
  obtain ⟨m0, m1, m2, m3⟩ := h1.right.right.cells4
  have ml := h1.right.right.lt
  have HK := Lib.hid (fun (w' : World) (P Q : HProp) (h : Has w' (P * (blk b #[.pointer (some ⟨t, 0, none⟩), .pointer (some ⟨v, 0, none⟩)] 140 * (blk X #[(Value.int .i64) m.page, (Value.int .i64) m.size, (Value.int .i64) m.frame, (Value.int .i64) m.rights] 27 * Q)))) => (by
    obtain ⟨b0, _⟩ := h.right.cells2
    obtain ⟨m0, m1, m2, m3⟩ := h.right.right.cells4
    exact ⟨b0, m0, m1, m2, m3⟩ : w'.cell? ⟨b, 0, none⟩ = some (.pointer (some ⟨t, 0, none⟩)) ∧ w'.cell? ⟨X, 0, none⟩ = some ((Value.int .i64) m.page) ∧ w'.cell? ⟨X, 1, none⟩ = some ((Value.int .i64) m.size) ∧ w'.cell? ⟨X, 2, none⟩ = some ((Value.int .i64) m.frame) ∧ w'.cell? ⟨X, 3, none⟩ = some ((Value.int .i64) m.rights)))
  have h2 := h1.drew
  have x2 := x1.drew
  go_region_held3 (fun w' => w'.cell? ⟨b, 0, none⟩ = some (.pointer (some ⟨t, 0, none⟩)) ∧ w'.cell? ⟨X, 0, none⟩ = some ((Value.int .i64) m.page) ∧ w'.cell? ⟨X, 1, none⟩ = some ((Value.int .i64) m.size) ∧ w'.cell? ⟨X, 2, none⟩ = some ((Value.int .i64) m.frame) ∧ w'.cell? ⟨X, 3, none⟩ = some ((Value.int .i64) m.rights)) (first | (with_reducible exact HK.out _ _ _ h2) | (with_reducible exact HK.out _ _ _ h3) | go_keep) (first | (go_at_call 131; (with_reducible refine (HD.out _ _ h2).mono ?_); rintro e w3 ⟨rfl, h3, x3⟩))
  have x4 := x2.trans x3
  clear h1 h2 x1 x2 x3 c0 c1 cl m0 m1 m2 m3 ml HK HD
  obtain ⟨c0, c1⟩ := h3.right.cells2
  have cl := h3.right.lt
  have h4 : Has w3 (walkerAt v root k * (tlbAt t (Tl.drop l m) * (blk b #[.pointer (some ⟨t, 0, none⟩), .pointer (some ⟨v, 0, none⟩)] 140 * (blk X #[(Value.int .i64) m.page, (Value.int .i64) m.size, (Value.int .i64) m.frame, (Value.int .i64) m.rights] 27 * R)))) := h3.eq (by ac_rfl)
  go_wp2_with fail
  refine (HA.out _ _ h4).mono ?_; rintro e w5 ⟨rfl, h5, x5⟩
  have h6 := pcAt_shut (h5.eq (show _ = blk b #[.pointer (some ⟨t, 0, none⟩), .pointer (some ⟨v, 0, none⟩)] 140 * (tlbAt t (Tl.drop l m) * (walkerAt v root (k.again root) * (blk X #[(Value.int .i64) m.page, (Value.int .i64) m.size, (Value.int .i64) m.frame, (Value.int .i64) m.rights] 27 * R))) by ac_rfl))
  go_wp2_with fail
  exact bodyPost_ret (v := .tuple #[]) (by simp [results, Try.results79]) rfl ⟨rfl, h6.p2.right, x4.trans x5⟩
end Go.Proofs.Ytndhgomikpokpaa

namespace Go.Proofs.Ytndhgomikpokpaa
open Go.RowKit
set_option maxRecDepth 100000

set_option maxHeartbeats 4000000 in
theorem stepPC' (b f : Nat) (l : List Ln) (root : Int) (k : Ck) (s : Ms) (fin d : Bool) (af afr ari p0 p1 p2 p3 code : Int) (k' : Ck) (s' : Ms) (L : List Ln) (hp : Hid (stepC s root k = ⟨k', s', ⟨fin, ⟨af, afr, ari⟩, ⟨⟨p0, p1, p2, p3⟩, d⟩⟩, code⟩)) (HL : Hid (L = if fin = true ∧ af = 0 then Tl.put l ⟨⟨p0, p1, p2, p3⟩, d⟩ else l)) (hl : Tl.Ok l) (hs : s.Ok) (hk : k.Ok) (R : HProp) (W : World) (h : Has W (pcAt b l root k * (framesAt f s * R))) :
    Calls Try.prog 76 #[.pointer (some ⟨b, 0, none⟩), .pointer (some ⟨f, 0, none⟩)] W
      (Res (.tuple #[.agg #[(Value.int .i64) af, (Value.int .i64) afr, (Value.int .i64) ari], Value.bool fin, (Value.int .i64) code]) (pcAt b L root k' * (framesAt f s' * R)) W) := by
  have hp0 : i64 p0 := by have := stepC_page s root k; rw [hp.out] at this; exact this
  have hbad : code ≠ 0 → fin = false ∧ af = 0 ∧ afr = 0 ∧ ari = 0 := fun hc => by
    have := stepC_bad (s := s) (root := root) (c := k) (by rw [hp.out]; exact hc)
    rw [hp.out] at this
    injection this with h1 h2 h3
    injection h2 with h4 h5 h6
    exact ⟨h1, h4, h5, h6⟩
  obtain ⟨t, v, h⟩ := pcAt_open h
  have HS := Lib.hid (fun R X h => stepW v f root k s hs hk R X h)
  rw [hp.out] at HS
  dsimp only [RsV] at HS
  have h1 : Has _ (walkerAt v root k * (framesAt f s * (blk b #[.pointer (some ⟨t, 0, none⟩), .pointer (some ⟨v, 0, none⟩)] 140 * (tlbAt t l * (blk W.heap.size #[(Value.int .i64) 0, (Value.int .i64) 0, (Value.int .i64) 0] 49 * R))))) := (h.new #[(Value.int .i64) 0, (Value.int .i64) 0, (Value.int .i64) 0] 49).eq (by ac_rfl)
  have x1 := (Ext.refl W).alloc (.cells #[(Value.int .i64) 0, (Value.int .i64) 0, (Value.int .i64) 0] 49)
  clear h hs hk hp
  go_enter Try.func76, Try.ntmps76
  go_upto_region 1 with fail
  generalize W.alloc (.cells #[(Value.int .i64) 0, (Value.int .i64) 0, (Value.int .i64) 0] 49) = W1 at *
  generalize W.heap.size = X0 at *
  obtain ⟨c0, c1⟩ := h1.right.right.cells2
  have cl := h1.right.right.lt
  go_wp2_with fail
  refine (HS.out _ _ h1).mono ?_; rintro e w3 ⟨rfl, h3, x3⟩
  have h4 : Has _ (blk w3.heap.size #[Value.bool fin, (Value.int .i64) af, (Value.int .i64) afr, (Value.int .i64) ari, (Value.int .i64) p0, (Value.int .i64) p1, (Value.int .i64) p2, (Value.int .i64) p3, Value.bool d] 53 * (blk X0 #[(Value.int .i64) 0, (Value.int .i64) 0, (Value.int .i64) 0] 49 * (blk b #[.pointer (some ⟨t, 0, none⟩), .pointer (some ⟨v, 0, none⟩)] 140 * (tlbAt t l * (walkerAt v root k' * (framesAt f s' * R)))))) := (h3.new #[Value.bool fin, (Value.int .i64) af, (Value.int .i64) afr, (Value.int .i64) ari, (Value.int .i64) p0, (Value.int .i64) p1, (Value.int .i64) p2, (Value.int .i64) p3, Value.bool d] 53).eq (by ac_rfl)
  have x4 := (x1.trans x3).alloc (.cells #[Value.bool fin, (Value.int .i64) af, (Value.int .i64) afr, (Value.int .i64) ari, (Value.int .i64) p0, (Value.int .i64) p1, (Value.int .i64) p2, (Value.int .i64) p3, Value.bool d] 53)
  clear h1 x1 h3 x3 HS c0 c1 cl
  go_upto_region 2 with fail
  generalize w3.alloc (.cells #[Value.bool fin, (Value.int .i64) af, (Value.int .i64) afr, (Value.int .i64) ari, (Value.int .i64) p0, (Value.int .i64) p1, (Value.int .i64) p2, (Value.int .i64) p3, Value.bool d] 53) = w4 at *
  generalize w3.heap.size = V at *
  obtain ⟨v0, v1, v2, v3, v4, v5, v6, v7, v8⟩ := h4.cells9
  have vl := h4.lt
  obtain ⟨r0, r1, r2⟩ := h4.right.cells3
  obtain ⟨g0, g1, g2⟩ := h4.right.frees3
  have rl := h4.right.lt
  obtain ⟨c0, c1⟩ := h4.right.right.cells2
  have cl := h4.right.right.lt
  by_cases hc : code = 0
  · subst hc
    clear hbad
    by_cases hcond : fin = true ∧ af = 0
    · have HL' := HL.out
      rw [if_pos hcond] at HL'
      clear HL
      obtain ⟨rfl, rfl⟩ := hcond
      have HP := Lib.hid (fun R X h => putT t l ⟨⟨p0, p1, p2, p3⟩, d⟩ R X hl hp0 h)
      dsimp only at HP
      rw [← HL'] at HP
      clear hp0 hl HL'
      generalize decide (check ⟨p0, p1, p2, p3⟩ = 0) = okp at *
      have h5 : Has w4.drew (tlbAt t l * (blk V #[Value.bool true, (Value.int .i64) 0, (Value.int .i64) afr, (Value.int .i64) ari, (Value.int .i64) p0, (Value.int .i64) p1, (Value.int .i64) p2, (Value.int .i64) p3, Value.bool d] 53 * (blk b #[.pointer (some ⟨t, 0, none⟩), .pointer (some ⟨v, 0, none⟩)] 140 * (blk X0 #[(Value.int .i64) 0, (Value.int .i64) 0, (Value.int .i64) 0] 49 * (walkerAt v root k' * (framesAt f s' * R)))))) := h4.drew.eq (by ac_rfl)
      have x5 := x4.drew
      have HK := Lib.hid (fun (w' : World) (P Q : HProp) (h : Has w' (P * (blk V #[Value.bool true, (Value.int .i64) 0, (Value.int .i64) afr, (Value.int .i64) ari, (Value.int .i64) p0, (Value.int .i64) p1, (Value.int .i64) p2, (Value.int .i64) p3, Value.bool d] 53 * (blk b #[.pointer (some ⟨t, 0, none⟩), .pointer (some ⟨v, 0, none⟩)] 140 * Q)))) => (by
        obtain ⟨_, _, _, _, m4, m5, m6, m7, m8⟩ := h.right.cells9
        obtain ⟨b0, _⟩ := h.right.right.cells2
        exact ⟨b0, m4, m5, m6, m7, m8⟩ : w'.cell? ⟨b, 0, none⟩ = some (.pointer (some ⟨t, 0, none⟩)) ∧ w'.cell? ⟨V, 4, none⟩ = some ((Value.int .i64) p0) ∧ w'.cell? ⟨V, 5, none⟩ = some ((Value.int .i64) p1) ∧ w'.cell? ⟨V, 6, none⟩ = some ((Value.int .i64) p2) ∧ w'.cell? ⟨V, 7, none⟩ = some ((Value.int .i64) p3) ∧ w'.cell? ⟨V, 8, none⟩ = some (Value.bool d)))
      go_upto_region 5 with fail
      go_region_held3 (fun w' => w'.cell? ⟨b, 0, none⟩ = some (.pointer (some ⟨t, 0, none⟩)) ∧ w'.cell? ⟨V, 4, none⟩ = some ((Value.int .i64) p0) ∧ w'.cell? ⟨V, 5, none⟩ = some ((Value.int .i64) p1) ∧ w'.cell? ⟨V, 6, none⟩ = some ((Value.int .i64) p2) ∧ w'.cell? ⟨V, 7, none⟩ = some ((Value.int .i64) p3) ∧ w'.cell? ⟨V, 8, none⟩ = some (Value.bool d)) (first | (with_reducible exact HK.out _ _ _ h5) | (with_reducible exact HK.out _ _ _ h6) | go_keep) (first | (go_at_call 126; (with_reducible refine (HP.out _ _ h5).mono ?_); rintro e w6 ⟨rfl, h6, x6⟩))
      have x7 := x5.trans x6
      clear h4 h5 x4 x5 x6 HP HK v0 v1 v2 v3 v4 v5 v6 v7 v8 vl r0 r1 r2 g0 g1 g2 rl c0 c1 cl
      have h7 : Has w6 (blk X0 #[(Value.int .i64) 0, (Value.int .i64) 0, (Value.int .i64) 0] 49 * (blk V #[Value.bool true, (Value.int .i64) 0, (Value.int .i64) afr, (Value.int .i64) ari, (Value.int .i64) p0, (Value.int .i64) p1, (Value.int .i64) p2, (Value.int .i64) p3, Value.bool d] 53 * (blk b #[.pointer (some ⟨t, 0, none⟩), .pointer (some ⟨v, 0, none⟩)] 140 * (tlbAt t L * (walkerAt v root k' * (framesAt f s' * R)))))) := h6.eq (by ac_rfl)
      clear h6
      obtain ⟨v0, v1, v2, v3, v4, v5, v6, v7, v8⟩ := h7.right.cells9
      have vl := h7.right.lt
      have vn := h7.ne
      have vn' := vn.symm
      obtain ⟨r0, r1, r2⟩ := h7.cells3
      obtain ⟨g0, g1, g2⟩ := h7.frees3
      have rl := h7.lt
      go_upto_region 6 with fail
      go_region
      all_goals
        go_wp2_with fail
        refine ret_via (fun wz => Has wz (blk X0 #[(Value.int .i64) 0, (Value.int .i64) afr, (Value.int .i64) ari] 49 * (blk V #[Value.bool true, (Value.int .i64) 0, (Value.int .i64) afr, (Value.int .i64) ari, (Value.int .i64) p0, (Value.int .i64) p1, (Value.int .i64) p2, (Value.int .i64) p3, Value.bool d] 53 * (blk b #[.pointer (some ⟨t, 0, none⟩), .pointer (some ⟨v, 0, none⟩)] 140 * (tlbAt t L * (walkerAt v root k' * (framesAt f s' * R)))))) ∧ Ext W wz) ⟨by first | exact (h7.set3 _ _ _).drew | exact h7.drew.set3 _ _ _, by (repeat (first | with_reducible assumption | with_reducible exact Ext.refl _ | with_reducible refine Ext.set ?_ _ _ | with_reducible refine Ext.alloc ?_ _ | with_reducible refine Ext.drew ?_ | with_reducible refine Ext.drewN ?_ _ | assumption | exact Ext.refl _ | refine Ext.alloc ?_ _ | refine Ext.set ?_ _ _ | refine Ext.drew ?_ | refine Ext.drewN ?_ _ | refine Ext.below ?_ (by assumption) | refine Ext.trans ?_ (by assumption)))⟩ ?_
        rintro wz ⟨hz, xz⟩
        exact bodyPost_ret (results_ctt Try.results76 rfl rfl rfl (load_answer hz)) rfl ⟨rfl, pcAt_shut hz.right.right, xz⟩
    · have HL' := HL.out
      rw [if_neg hcond] at HL'
      clear HL
      subst HL'
      have h7 := h4.p2
      have vn := h7.ne
      have vn' := vn.symm
      go_upto_region 4 with fail
      go_cut [29] from 22 to 29 (fun s29 wx => s29 = Value.bool false ∧ wx = w4)
      case first =>
        cases fin with
        | false =>
          go_wp2_with fail
          go_meet
          case rel => exact ⟨rfl, rfl⟩
        | true =>
          have ha : (af == 0) = false := by simpa using hcond
          clear hcond
          go_wp2_with fail
          go_meet
          case rel => exact ⟨rfl, rfl⟩
      case rest =>
        obtain ⟨rfl, rfl⟩ := hcut
        go_upto_region 6 with fail
        go_region
        all_goals
          go_wp2_with fail
          refine ret_via (fun wz => Has wz (blk X0 #[(Value.int .i64) af, (Value.int .i64) afr, (Value.int .i64) ari] 49 * (blk V #[Value.bool fin, (Value.int .i64) af, (Value.int .i64) afr, (Value.int .i64) ari, (Value.int .i64) p0, (Value.int .i64) p1, (Value.int .i64) p2, (Value.int .i64) p3, Value.bool d] 53 * (blk b #[.pointer (some ⟨t, 0, none⟩), .pointer (some ⟨v, 0, none⟩)] 140 * (tlbAt t L * (walkerAt v root k' * (framesAt f s' * R)))))) ∧ Ext W wz) ⟨by first | exact (h7.set3 _ _ _).drew | exact h7.drew.set3 _ _ _, by (repeat (first | with_reducible assumption | with_reducible exact Ext.refl _ | with_reducible refine Ext.set ?_ _ _ | with_reducible refine Ext.alloc ?_ _ | with_reducible refine Ext.drew ?_ | with_reducible refine Ext.drewN ?_ _ | assumption | exact Ext.refl _ | refine Ext.alloc ?_ _ | refine Ext.set ?_ _ _ | refine Ext.drew ?_ | refine Ext.drewN ?_ _ | refine Ext.below ?_ (by assumption) | refine Ext.trans ?_ (by assumption)))⟩ ?_
          rintro wz ⟨hz, xz⟩
          exact bodyPost_ret (results_ctt Try.results76 rfl rfl rfl (load_answer hz)) rfl ⟨rfl, pcAt_shut hz.right.right, xz⟩
  · obtain ⟨rfl, rfl, rfl, rfl⟩ := hbad hc
    have hn : (code != 0) = true := by simpa using hc
    have HL' := HL.out
    rw [if_neg (by simp)] at HL'
    clear HL hc
    subst HL'
    go_wp2_with fail
    refine ret_via (fun wz => Has wz (blk X0 #[(Value.int .i64) 0, (Value.int .i64) 0, (Value.int .i64) 0] 49 * (blk V #[Value.bool false, (Value.int .i64) 0, (Value.int .i64) 0, (Value.int .i64) 0, (Value.int .i64) p0, (Value.int .i64) p1, (Value.int .i64) p2, (Value.int .i64) p3, Value.bool d] 53 * (blk b #[.pointer (some ⟨t, 0, none⟩), .pointer (some ⟨v, 0, none⟩)] 140 * (tlbAt t L * (walkerAt v root k' * (framesAt f s' * R)))))) ∧ Ext W wz) ⟨h4.p2.set3 _ _ _, by (repeat (first | with_reducible assumption | with_reducible exact Ext.refl _ | with_reducible refine Ext.set ?_ _ _ | with_reducible refine Ext.alloc ?_ _ | with_reducible refine Ext.drew ?_ | with_reducible refine Ext.drewN ?_ _ | assumption | exact Ext.refl _ | refine Ext.alloc ?_ _ | refine Ext.set ?_ _ _ | refine Ext.drew ?_ | refine Ext.drewN ?_ _ | refine Ext.below ?_ (by assumption) | refine Ext.trans ?_ (by assumption)))⟩ ?_
    rintro wz ⟨hz, xz⟩
    exact bodyPost_ret (results_ctt Try.results76 rfl rfl rfl (load_answer hz)) rfl ⟨rfl, pcAt_shut hz.right.right, xz⟩
theorem stepPC (b f : Nat) (l : List Ln) (root : Int) (k : Ck) (s : Ms) (hl : Tl.Ok l) (hs : s.Ok) (hk : k.Ok) (R : HProp) (W : World) (h : Has W (pcAt b l root k * (framesAt f s * R))) :
    Calls Try.prog 76 #[.pointer (some ⟨b, 0, none⟩), .pointer (some ⟨f, 0, none⟩)] W
      (Res (.tuple #[.agg #[(Value.int .i64) (stepC s root k).r.an.fin, (Value.int .i64) (stepC s root k).r.an.frame, (Value.int .i64) (stepC s root k).r.an.rights], Value.bool (stepC s root k).r.fin, (Value.int .i64) (stepC s root k).code]) (pcAt b (keepL l (stepC s root k).r) root (stepC s root k).c * (framesAt f (stepC s root k).s * R)) W) :=
  stepPC' b f l root k s _ _ _ _ _ _ _ _ _ _ _ _ (keepL l (stepC s root k).r) (Lib.hid rfl) (Lib.hid rfl) hl hs hk R W h
end Go.Proofs.Ytndhgomikpokpaa

namespace Go.Proofs.Ytndhgomikpokpaa
open Go.RowKit
set_option maxRecDepth 100000

/-- It is refused. -/
theorem beginC_bad (b : Nat) (l : List Ln) (root : Int) (k : Ck) (a : Ac) (ha : checkAccess a ≠ 0) (R : HProp) (W : World) (h : Has W (pcAt b l root k * R)) :
    Calls Try.prog 75 #[.pointer (some ⟨b, 0, none⟩), .agg #[(Value.int .i64) a.page, (Value.int .i64) a.kind, Value.bool a.user]] W (Res (.tuple #[.agg #[(Value.int .i64) 0, (Value.int .i64) 0, (Value.int .i64) 0], Value.bool false, (Value.int .i64) (checkAccess a)]) (pcAt b l root k * R) W) := by
  have hn : (checkAccess ⟨a.page, a.kind, a.user⟩ != 0) = true := by simpa using ha
  have h1 : Has _ (blk (W.heap.size + 1) #[(Value.int .i64) 0, (Value.int .i64) 0, (Value.int .i64) 0] 49 * (blk W.heap.size #[(Value.int .i64) a.page, (Value.int .i64) a.kind, Value.bool a.user] 29 * (pcAt b l root k * R))) := ((h.new #[(Value.int .i64) a.page, (Value.int .i64) a.kind, Value.bool a.user] 29).new #[(Value.int .i64) 0, (Value.int .i64) 0, (Value.int .i64) 0] 49).eq (by simp only [World.size_alloc])
  have x1 := ((Ext.refl W).alloc (.cells #[(Value.int .i64) a.page, (Value.int .i64) a.kind, Value.bool a.user] 29)).alloc (.cells #[(Value.int .i64) 0, (Value.int .i64) 0, (Value.int .i64) 0] 49)
  have HC := Lib.hid (fun X => checkAccess_any a.page a.kind a.user X)
  clear h
  go_enter Try.func75, Try.ntmps75
  go_upto_region 1 with fail
  generalize (W.alloc (.cells #[(Value.int .i64) a.page, (Value.int .i64) a.kind, Value.bool a.user] 29)).alloc (.cells #[(Value.int .i64) 0, (Value.int .i64) 0, (Value.int .i64) 0] 49) = W1 at *
  generalize W.heap.size + 1 = X1 at *
  generalize W.heap.size = X0 at *
  obtain ⟨a0, a1, a2⟩ := h1.right.cells3
  have al := h1.right.lt
  go_wp2_with fail
  refine (HC.out _).mono ?_; rintro e w2 ⟨rfl, b2⟩
  have h2 := h1.below b2
  have x2 := x1.below b2
  clear h1 x1 a0 a1 a2 al b2 HC
  rw [show checkAccess a = checkAccess ⟨a.page, a.kind, a.user⟩ from rfl]
  generalize checkAccess ⟨a.page, a.kind, a.user⟩ = ca at *
  obtain ⟨r0, r1, r2⟩ := h2.cells3
  obtain ⟨g0, g1, g2⟩ := h2.frees3
  have rl := h2.lt
  go_wp2_with fail
  refine ret_via (fun wz => Has wz (blk X1 #[(Value.int .i64) 0, (Value.int .i64) 0, (Value.int .i64) 0] 49 * (blk X0 #[(Value.int .i64) a.page, (Value.int .i64) a.kind, Value.bool a.user] 29 * (pcAt b l root k * R))) ∧ Ext W wz) ⟨h2.set3 _ _ _, by (repeat (first | with_reducible assumption | with_reducible exact Ext.refl _ | with_reducible refine Ext.set ?_ _ _ | with_reducible refine Ext.alloc ?_ _ | with_reducible refine Ext.drew ?_ | with_reducible refine Ext.drewN ?_ _ | assumption | exact Ext.refl _ | refine Ext.alloc ?_ _ | refine Ext.set ?_ _ _ | refine Ext.drew ?_ | refine Ext.drewN ?_ _ | refine Ext.below ?_ (by assumption) | refine Ext.trans ?_ (by assumption)))⟩ ?_
  rintro wz ⟨hz, xz⟩
  exact bodyPost_ret (results_ctt Try.results75 rfl rfl rfl (load_answer hz)) rfl ⟨rfl, hz.right.right, xz⟩
/-- It is on its way already. -/
theorem beginC_busy (b : Nat) (l : List Ln) (root : Int) (k : Ck) (a : Ac) (ha : checkAccess a = 0) (hon : k.on = true) (R : HProp) (W : World) (h : Has W (pcAt b l root k * R)) :
    Calls Try.prog 75 #[.pointer (some ⟨b, 0, none⟩), .agg #[(Value.int .i64) a.page, (Value.int .i64) a.kind, Value.bool a.user]] W (Res (.tuple #[.agg #[(Value.int .i64) 0, (Value.int .i64) 0, (Value.int .i64) 0], Value.bool false, (Value.int .i64) 8]) (pcAt b l root k * R) W) := by
  have HO := Lib.hid (fun R X h => busyC b l root k R X h)
  rw [hon] at HO
  have ha' : checkAccess ⟨a.page, a.kind, a.user⟩ = 0 := ha
  clear ha
  have h1 : Has _ (blk (W.heap.size + 1) #[(Value.int .i64) 0, (Value.int .i64) 0, (Value.int .i64) 0] 49 * (blk W.heap.size #[(Value.int .i64) a.page, (Value.int .i64) a.kind, Value.bool a.user] 29 * (pcAt b l root k * R))) := ((h.new #[(Value.int .i64) a.page, (Value.int .i64) a.kind, Value.bool a.user] 29).new #[(Value.int .i64) 0, (Value.int .i64) 0, (Value.int .i64) 0] 49).eq (by simp only [World.size_alloc])
  have x1 := ((Ext.refl W).alloc (.cells #[(Value.int .i64) a.page, (Value.int .i64) a.kind, Value.bool a.user] 29)).alloc (.cells #[(Value.int .i64) 0, (Value.int .i64) 0, (Value.int .i64) 0] 49)
  have HC := Lib.hid (fun X => checkAccess_any a.page a.kind a.user X)
  clear h
  go_enter Try.func75, Try.ntmps75
  go_upto_region 1 with fail
  generalize (W.alloc (.cells #[(Value.int .i64) a.page, (Value.int .i64) a.kind, Value.bool a.user] 29)).alloc (.cells #[(Value.int .i64) 0, (Value.int .i64) 0, (Value.int .i64) 0] 49) = W1 at *
  generalize W.heap.size + 1 = X1 at *
  generalize W.heap.size = X0 at *
  obtain ⟨a0, a1, a2⟩ := h1.right.cells3
  have al := h1.right.lt
  go_wp2_with fail
  refine (HC.out _).mono ?_; rintro e w2 ⟨rfl, b2⟩
  have h2 := h1.below b2
  have x2 := x1.below b2
  clear h1 x1 a0 a1 a2 al b2 HC
  rw [ha']
  go_wp2_with fail
  refine (HO.out _ _ h2.right.right).mono ?_; rintro e w3 ⟨rfl, rfl⟩
  obtain ⟨r0, r1, r2⟩ := h2.cells3
  obtain ⟨g0, g1, g2⟩ := h2.frees3
  have rl := h2.lt
  go_wp2_with fail
  refine ret_via (fun wz => Has wz (blk X1 #[(Value.int .i64) 0, (Value.int .i64) 0, (Value.int .i64) 0] 49 * (blk X0 #[(Value.int .i64) a.page, (Value.int .i64) a.kind, Value.bool a.user] 29 * (pcAt b l root k * R))) ∧ Ext W wz) ⟨h2.set3 _ _ _, by (repeat (first | with_reducible assumption | with_reducible exact Ext.refl _ | with_reducible refine Ext.set ?_ _ _ | with_reducible refine Ext.alloc ?_ _ | with_reducible refine Ext.drew ?_ | with_reducible refine Ext.drewN ?_ _ | assumption | exact Ext.refl _ | refine Ext.alloc ?_ _ | refine Ext.set ?_ _ _ | refine Ext.drew ?_ | refine Ext.drewN ?_ _ | refine Ext.below ?_ (by assumption) | refine Ext.trans ?_ (by assumption)))⟩ ?_
  rintro wz ⟨hz, xz⟩
  exact bodyPost_ret (results_ctt Try.results75 rfl rfl rfl (load_answer hz)) rfl ⟨rfl, hz.right.right, xz⟩
def Ln.zero : Ln := ⟨Mp.zero, false⟩
/-- Does it use what is kept? -/
def useL (x : Ln) (a : Ac) : Bool := x.dirty || (a.kind != 1 || !may x.m.rights a)
set_option maxHeartbeats 4000000 in
theorem beginC_free (b : Nat) (l : List Ln) (root : Int) (k : Ck) (a : Ac) (ha : checkAccess a = 0) (hon : k.on = false) (hl : Tl.Ok l) (hp : i64 a.page) (x : Ln) (ok hit : Bool) (an : An) (q : Bq)
    (hx : Hid (lnOf (Tl.find l a.page) = x.val ∧ (Tl.find l a.page).isSome = ok)) (hh : Hid (hit = (ok && useL x a))) (hAn : Hid (answer x.m a = an)) (hq : Hid (q = if hit = true then ⟨an, true, 0, k⟩ else ⟨An.zero, false, 0, k.begin root a⟩)) (R : HProp) (W : World) (h : Has W (pcAt b l root k * R)) :
    Calls Try.prog 75 #[.pointer (some ⟨b, 0, none⟩), .agg #[(Value.int .i64) a.page, (Value.int .i64) a.kind, Value.bool a.user]] W (Res (.tuple #[.agg #[(Value.int .i64) q.an.fin, (Value.int .i64) q.an.frame, (Value.int .i64) q.an.rights], Value.bool q.fin, (Value.int .i64) q.code]) (pcAt b l root q.c * R) W) := by
  have HO := Lib.hid (fun R X h => busyC b l root k R X h)
  rw [hon] at HO
  have ha' : checkAccess ⟨a.page, a.kind, a.user⟩ = 0 := ha
  have HF := Lib.hid (fun t R X h => findT t l a.page R X hl.lok hp h)
  rw [hx.out.1, hx.out.2] at HF
  have HB := Lib.hid (fun v R X h => beginW v root k a R X h)
  have hbc : begC k a = 0 := by unfold begC; rw [if_neg (by rw [ha]; simp), if_neg (by rw [hon]; simp)]
  have hbs : begS k root a = k.begin root a := by unfold begS; rw [if_pos hbc]
  rw [hbc, hbs] at HB
  have HM := Lib.hid (fun X => may_any x.m.rights a.page a.kind a.user X)
  have HA := Lib.hid (fun X => answer_any x.m a.page a.kind a.user X)
  rw [show answer x.m ⟨a.page, a.kind, a.user⟩ = an from hAn.out] at HA
  clear ha hon hl hp hx hbc hbs hAn
  have h1 : Has _ (blk (W.heap.size + 1) #[(Value.int .i64) 0, (Value.int .i64) 0, (Value.int .i64) 0] 49 * (blk W.heap.size #[(Value.int .i64) a.page, (Value.int .i64) a.kind, Value.bool a.user] 29 * (pcAt b l root k * R))) := ((h.new #[(Value.int .i64) a.page, (Value.int .i64) a.kind, Value.bool a.user] 29).new #[(Value.int .i64) 0, (Value.int .i64) 0, (Value.int .i64) 0] 49).eq (by simp only [World.size_alloc])
  have x1 := ((Ext.refl W).alloc (.cells #[(Value.int .i64) a.page, (Value.int .i64) a.kind, Value.bool a.user] 29)).alloc (.cells #[(Value.int .i64) 0, (Value.int .i64) 0, (Value.int .i64) 0] 49)
  have HC := Lib.hid (fun X => checkAccess_any a.page a.kind a.user X)
  clear h
  go_enter Try.func75, Try.ntmps75
  go_upto_region 1 with fail
  generalize (W.alloc (.cells #[(Value.int .i64) a.page, (Value.int .i64) a.kind, Value.bool a.user] 29)).alloc (.cells #[(Value.int .i64) 0, (Value.int .i64) 0, (Value.int .i64) 0] 49) = W1 at *
  generalize W.heap.size + 1 = X1 at *
  generalize W.heap.size = X0 at *
  obtain ⟨a0, a1, a2⟩ := h1.right.cells3
  have al := h1.right.lt
  go_wp2_with fail
  refine (HC.out _).mono ?_; rintro e w2 ⟨rfl, b2⟩
  have h2 := h1.below b2
  have x2 := x1.below b2
  clear h1 x1 a0 a1 a2 al b2 HC
  rw [ha']
  go_wp2_with fail
  refine (HO.out _ _ h2.right.right).mono ?_; rintro e w3 ⟨rfl, rfl⟩
  obtain ⟨t, v, h3⟩ := pcAt_open (h2.eq (show _ = pcAt b l root k * (blk X1 #[(Value.int .i64) 0, (Value.int .i64) 0, (Value.int .i64) 0] 49 * (blk X0 #[(Value.int .i64) a.page, (Value.int .i64) a.kind, Value.bool a.user] 29 * R)) by ac_rfl))
  have h4 : Has _ (tlbAt t l * (blk b #[.pointer (some ⟨t, 0, none⟩), .pointer (some ⟨v, 0, none⟩)] 140 * (blk X0 #[(Value.int .i64) a.page, (Value.int .i64) a.kind, Value.bool a.user] 29 * (blk X1 #[(Value.int .i64) 0, (Value.int .i64) 0, (Value.int .i64) 0] 49 * (walkerAt v root k * R))))) := h3.eq (by ac_rfl)
  have x4 := x2
  clear HO ha' h2 h3 x2
  obtain ⟨c0, c1⟩ := h4.right.cells2
  have cl := h4.right.lt
  obtain ⟨a0, a1, a2⟩ := h4.right.right.cells3
  have al := h4.right.right.lt
  have HK := Lib.hid (fun (w' : World) (P Q : HProp) (h : Has w' (P * (blk b #[.pointer (some ⟨t, 0, none⟩), .pointer (some ⟨v, 0, none⟩)] 140 * (blk X0 #[(Value.int .i64) a.page, (Value.int .i64) a.kind, Value.bool a.user] 29 * Q)))) => (by
    obtain ⟨b0, _⟩ := h.right.cells2
    obtain ⟨m0, _⟩ := h.right.right.cells3
    exact ⟨b0, m0⟩ : w'.cell? ⟨b, 0, none⟩ = some (.pointer (some ⟨t, 0, none⟩)) ∧ w'.cell? ⟨X0, 0, none⟩ = some ((Value.int .i64) a.page)))
  go_upto_region 6 with fail
  go_cut [8, 9] from 19 to 29 (fun s8 s9 wx => ∃ V : Nat, s8 = .pointer (some ⟨V, 0, none⟩) ∧ s9 = Value.bool ok ∧ Has wx (blk V #[(Value.int .i64) x.m.page, (Value.int .i64) x.m.size, (Value.int .i64) x.m.frame, (Value.int .i64) x.m.rights, Value.bool x.dirty] 51 * (tlbAt t l * (blk b #[.pointer (some ⟨t, 0, none⟩), .pointer (some ⟨v, 0, none⟩)] 140 * (blk X0 #[(Value.int .i64) a.page, (Value.int .i64) a.kind, Value.bool a.user] 29 * (blk X1 #[(Value.int .i64) 0, (Value.int .i64) 0, (Value.int .i64) 0] 49 * (walkerAt v root k * R)))))) ∧ Ext W wx)
  case first =>
    have h5 := h4.drew
    have x5 := x4.drew
    have z5 : Has (w2.alloc (.cells #[(Value.int .i64) 0, (Value.int .i64) 0, (Value.int .i64) 0, (Value.int .i64) 0, Value.bool false] 51)).drew (tlbAt t l * (blk b #[.pointer (some ⟨t, 0, none⟩), .pointer (some ⟨v, 0, none⟩)] 140 * (blk X0 #[(Value.int .i64) a.page, (Value.int .i64) a.kind, Value.bool a.user] 29 * (blk w2.heap.size #[(Value.int .i64) 0, (Value.int .i64) 0, (Value.int .i64) 0, (Value.int .i64) 0, Value.bool false] 51 * (blk X1 #[(Value.int .i64) 0, (Value.int .i64) 0, (Value.int .i64) 0] 49 * (walkerAt v root k * R)))))) := (h4.new #[(Value.int .i64) 0, (Value.int .i64) 0, (Value.int .i64) 0, (Value.int .i64) 0, Value.bool false] 51).drew.eq (by ac_rfl)
    have y5 := (x4.alloc (.cells #[(Value.int .i64) 0, (Value.int .i64) 0, (Value.int .i64) 0, (Value.int .i64) 0, Value.bool false] 51)).drew
    go_region_held3 (fun w' => w'.cell? ⟨b, 0, none⟩ = some (.pointer (some ⟨t, 0, none⟩)) ∧ w'.cell? ⟨X0, 0, none⟩ = some ((Value.int .i64) a.page)) (first | (with_reducible exact HK.out _ _ _ h5) | (with_reducible exact HK.out _ _ _ z5) | (with_reducible exact HK.out _ _ _ hL) | (with_reducible exact HK.out _ _ _ (hL.alloc _)) | (with_reducible exact HK.out _ _ _ gL) | (with_reducible exact HK.out _ _ _ gL.right) | (with_reducible exact HK.out _ _ _ (gL.set5 _ _ _ _ _).right) | go_keep) (first | (go_at_call 78; first | ((with_reducible refine (HF.out _ _ _ h5).mono ?_); rintro e w5 ⟨rfl, b5⟩; have hL := h5.below b5; have xL := x5.below b5) | ((with_reducible refine (HF.out _ _ _ z5).mono ?_); rintro e w5 ⟨rfl, b5⟩; have gL : Has w5 (blk w2.heap.size #[(Value.int .i64) 0, (Value.int .i64) 0, (Value.int .i64) 0, (Value.int .i64) 0, Value.bool false] 51 * (tlbAt t l * (blk b #[.pointer (some ⟨t, 0, none⟩), .pointer (some ⟨v, 0, none⟩)] 140 * (blk X0 #[(Value.int .i64) a.page, (Value.int .i64) a.kind, Value.bool a.user] 29 * (blk X1 #[(Value.int .i64) 0, (Value.int .i64) 0, (Value.int .i64) 0] 49 * (walkerAt v root k * R)))))) := (z5.below b5).eq (by ac_rfl); have yL := y5.below b5; obtain ⟨z0, z1, z2, z3, z4⟩ := gL.cells5; obtain ⟨y0, y1, y2, y3, y4⟩ := gL.frees5; have zl := gL.lt)))
    all_goals
      go_wp2_with fail
      go_meet
      case rel => first | exact ⟨_, rfl, rfl, hL.new #[(Value.int .i64) x.m.page, (Value.int .i64) x.m.size, (Value.int .i64) x.m.frame, (Value.int .i64) x.m.rights, Value.bool x.dirty] 51, xL.alloc _⟩ | exact ⟨_, rfl, rfl, gL.set5 _ _ _ _ _, ((((yL.set _ _).set _ _).set _ _).set _ _).set _ _⟩
  case rest =>
    clear h4 x4 c0 c1 cl a0 a1 a2 al HK HF
    obtain ⟨V, rfl, rfl, h5, x5⟩ := hcut
    obtain ⟨v0, v1, v2, v3, v4⟩ := h5.cells5
    have vl := h5.lt
    obtain ⟨c0, c1⟩ := h5.right.right.cells2
    have cl := h5.right.right.lt
    obtain ⟨a0, a1, a2⟩ := h5.right.right.right.cells3
    have al := h5.right.right.right.lt
    go_upto_region 7 with fail
    go_cut [46] from 29 to 46 (fun s46 wx => s46 = Value.bool hit ∧ Has wx (blk V #[(Value.int .i64) x.m.page, (Value.int .i64) x.m.size, (Value.int .i64) x.m.frame, (Value.int .i64) x.m.rights, Value.bool x.dirty] 51 * (tlbAt t l * (blk b #[.pointer (some ⟨t, 0, none⟩), .pointer (some ⟨v, 0, none⟩)] 140 * (blk X0 #[(Value.int .i64) a.page, (Value.int .i64) a.kind, Value.bool a.user] 29 * (blk X1 #[(Value.int .i64) 0, (Value.int .i64) 0, (Value.int .i64) 0] 49 * (walkerAt v root k * R)))))) ∧ Ext W wx)
    case first =>
      replace hh := hh.out
      unfold useL at hh
      cases ok with
      | false =>
        replace hh : hit = false := hh
        subst hh
        go_wp2_with fail
        go_meet
        case rel => exact ⟨rfl, h5, x5⟩
      | true =>
        cases hd : x.dirty with
        | true =>
          rw [hd] at hh v4
          clear hd
          replace hh : hit = true := hh
          subst hh
          go_wp2_with fail
          go_meet
          case rel => exact ⟨rfl, h5, x5⟩
        | false =>
          rw [hd] at hh v4
          clear hd
          by_cases hk : a.kind = 1
          · have hk1 : (a.kind != 1) = false := by simpa using hk
            rw [hk1] at hh
            replace hh : hit = !may x.m.rights ⟨a.page, a.kind, a.user⟩ := hh
            generalize may x.m.rights ⟨a.page, a.kind, a.user⟩ = my at *
            subst hh
            clear hk
            go_wp2_with fail
            refine (HM.out _).mono ?_; rintro e w7 ⟨rfl, b7⟩
            have h7 := h5.below b7
            have x7 := x5.below b7
            cases my
            all_goals
              go_wp2_with fail
              go_meet
              case rel => exact ⟨rfl, h7, x7⟩
          · have hk1 : (a.kind != 1) = true := by simpa using hk
            rw [hk1] at hh
            replace hh : hit = true := hh
            subst hh
            clear hk
            go_wp2_with fail
            go_meet
            case rel => exact ⟨rfl, h5, x5⟩
    case rest =>
      clear h5 x5 v0 v1 v2 v3 v4 vl c0 c1 cl a0 a1 a2 al hh HM
      obtain ⟨rfl, h5, x5⟩ := hcut
      obtain ⟨v0, v1, v2, v3, v4⟩ := h5.cells5
      have vl := h5.lt
      obtain ⟨c0, c1⟩ := h5.right.right.cells2
      have cl := h5.right.right.lt
      obtain ⟨a0, a1, a2⟩ := h5.right.right.right.cells3
      have al := h5.right.right.right.lt
      have hq := hq.out
      cases hit with
      | true =>
        rw [if_pos rfl] at hq
        subst hq
        try dsimp only
        go_wp2_with fail
        refine (HA.out _).mono ?_; rintro e w7 ⟨rfl, b7⟩
        have h7 : Has w7 (blk X1 #[(Value.int .i64) 0, (Value.int .i64) 0, (Value.int .i64) 0] 49 * (blk V #[(Value.int .i64) x.m.page, (Value.int .i64) x.m.size, (Value.int .i64) x.m.frame, (Value.int .i64) x.m.rights, Value.bool x.dirty] 51 * (tlbAt t l * (blk b #[.pointer (some ⟨t, 0, none⟩), .pointer (some ⟨v, 0, none⟩)] 140 * (blk X0 #[(Value.int .i64) a.page, (Value.int .i64) a.kind, Value.bool a.user] 29 * (walkerAt v root k * R)))))) := (h5.below b7).eq (by ac_rfl)
        have x7 := x5.below b7
        obtain ⟨r0, r1, r2⟩ := h7.cells3
        obtain ⟨g0, g1, g2⟩ := h7.frees3
        have rl := h7.lt
        go_wp2_with fail
        refine ret_via (fun wz => Has wz (blk X1 #[(Value.int .i64) an.fin, (Value.int .i64) an.frame, (Value.int .i64) an.rights] 49 * (blk V #[(Value.int .i64) x.m.page, (Value.int .i64) x.m.size, (Value.int .i64) x.m.frame, (Value.int .i64) x.m.rights, Value.bool x.dirty] 51 * (tlbAt t l * (blk b #[.pointer (some ⟨t, 0, none⟩), .pointer (some ⟨v, 0, none⟩)] 140 * (blk X0 #[(Value.int .i64) a.page, (Value.int .i64) a.kind, Value.bool a.user] 29 * (walkerAt v root k * R)))))) ∧ Ext W wz) ⟨h7.set3 _ _ _, by (repeat (first | with_reducible assumption | with_reducible exact Ext.refl _ | with_reducible refine Ext.set ?_ _ _ | with_reducible refine Ext.alloc ?_ _ | with_reducible refine Ext.drew ?_ | with_reducible refine Ext.drewN ?_ _ | assumption | exact Ext.refl _ | refine Ext.alloc ?_ _ | refine Ext.set ?_ _ _ | refine Ext.drew ?_ | refine Ext.drewN ?_ _ | refine Ext.below ?_ (by assumption) | refine Ext.trans ?_ (by assumption)))⟩ ?_
        rintro wz ⟨hz, xz⟩
        exact bodyPost_ret (results_ctt Try.results75 rfl rfl rfl (load_answer hz)) rfl ⟨rfl, (pcAt_shut (hz.right.right.eq (show _ = blk b #[.pointer (some ⟨t, 0, none⟩), .pointer (some ⟨v, 0, none⟩)] 140 * (tlbAt t l * (walkerAt v root k * (blk X0 #[(Value.int .i64) a.page, (Value.int .i64) a.kind, Value.bool a.user] 29 * R))) by ac_rfl))).p2.right, xz⟩
      | false =>
        rw [if_neg (by simp)] at hq
        subst hq
        try dsimp only [An.zero]
        have h6 : Has wc.drew (walkerAt v root k * (blk b #[.pointer (some ⟨t, 0, none⟩), .pointer (some ⟨v, 0, none⟩)] 140 * (blk X0 #[(Value.int .i64) a.page, (Value.int .i64) a.kind, Value.bool a.user] 29 * (blk X1 #[(Value.int .i64) 0, (Value.int .i64) 0, (Value.int .i64) 0] 49 * (blk V #[(Value.int .i64) x.m.page, (Value.int .i64) x.m.size, (Value.int .i64) x.m.frame, (Value.int .i64) x.m.rights, Value.bool x.dirty] 51 * (tlbAt t l * R)))))) := h5.drew.eq (by ac_rfl)
        have x6 := x5.drew
        have h6x : Has wc (blk X1 #[(Value.int .i64) 0, (Value.int .i64) 0, (Value.int .i64) 0] 49 * (walkerAt v root k * (blk b #[.pointer (some ⟨t, 0, none⟩), .pointer (some ⟨v, 0, none⟩)] 140 * (blk X0 #[(Value.int .i64) a.page, (Value.int .i64) a.kind, Value.bool a.user] 29 * (blk V #[(Value.int .i64) x.m.page, (Value.int .i64) x.m.size, (Value.int .i64) x.m.frame, (Value.int .i64) x.m.rights, Value.bool x.dirty] 51 * (tlbAt t l * R)))))) := h5.eq (by ac_rfl)
        obtain ⟨r0, r1, r2⟩ := h6x.cells3
        obtain ⟨g0, g1, g2⟩ := h6x.frees3
        have rl := h6x.lt
        have h6s := h6x.set3 ((Value.int .i64) 0) ((Value.int .i64) 0) ((Value.int .i64) 0)
        have h6d : Has _ (walkerAt v root k * (blk b #[.pointer (some ⟨t, 0, none⟩), .pointer (some ⟨v, 0, none⟩)] 140 * (blk X0 #[(Value.int .i64) a.page, (Value.int .i64) a.kind, Value.bool a.user] 29 * (blk X1 #[(Value.int .i64) 0, (Value.int .i64) 0, (Value.int .i64) 0] 49 * (blk V #[(Value.int .i64) x.m.page, (Value.int .i64) x.m.size, (Value.int .i64) x.m.frame, (Value.int .i64) x.m.rights, Value.bool x.dirty] 51 * (tlbAt t l * R)))))) := h6s.drew.eq (by ac_rfl)
        have x6d := (((x5.set ⟨X1, 0, none⟩ ((Value.int .i64) 0)).set ⟨X1, 1, none⟩ ((Value.int .i64) 0)).set ⟨X1, 2, none⟩ ((Value.int .i64) 0)).drew
        have HK := Lib.hid (fun (w' : World) (P Q : HProp) (h : Has w' (P * (blk b #[.pointer (some ⟨t, 0, none⟩), .pointer (some ⟨v, 0, none⟩)] 140 * (blk X0 #[(Value.int .i64) a.page, (Value.int .i64) a.kind, Value.bool a.user] 29 * Q)))) => (by
          obtain ⟨_, b0⟩ := h.right.cells2
          obtain ⟨m0, m1, m2⟩ := h.right.right.cells3
          exact ⟨b0, m0, m1, m2⟩ : w'.cell? ⟨b, 1, none⟩ = some (.pointer (some ⟨v, 0, none⟩)) ∧ w'.cell? ⟨X0, 0, none⟩ = some ((Value.int .i64) a.page) ∧ w'.cell? ⟨X0, 1, none⟩ = some ((Value.int .i64) a.kind) ∧ w'.cell? ⟨X0, 2, none⟩ = some (Value.bool a.user)))
        have HKS := Lib.hid (fun (w' : World) (P Q S : HProp) (h : Has w' (P * (Q * (S * (blk X1 #[(Value.int .i64) 0, (Value.int .i64) 0, (Value.int .i64) 0] 49 * (blk V #[(Value.int .i64) x.m.page, (Value.int .i64) x.m.size, (Value.int .i64) x.m.frame, (Value.int .i64) x.m.rights, Value.bool x.dirty] 51 * (tlbAt t l * R))))))) => (by
          have h7 : Has w' (blk X1 #[(Value.int .i64) 0, (Value.int .i64) 0, (Value.int .i64) 0] 49 * (P * (Q * (S * (blk V #[(Value.int .i64) x.m.page, (Value.int .i64) x.m.size, (Value.int .i64) x.m.frame, (Value.int .i64) x.m.rights, Value.bool x.dirty] 51 * (tlbAt t l * R)))))) := h.eq (by ac_rfl)
          exact (h7.set3 ((Value.int .i64) 0) ((Value.int .i64) 0) ((Value.int .i64) 0)).eq (by ac_rfl) : Has (((w'.setCell ⟨X1, 0, none⟩ ((Value.int .i64) 0)).setCell ⟨X1, 1, none⟩ ((Value.int .i64) 0)).setCell ⟨X1, 2, none⟩ ((Value.int .i64) 0)) (P * (Q * (S * (blk X1 #[(Value.int .i64) 0, (Value.int .i64) 0, (Value.int .i64) 0] 49 * (blk V #[(Value.int .i64) x.m.page, (Value.int .i64) x.m.size, (Value.int .i64) x.m.frame, (Value.int .i64) x.m.rights, Value.bool x.dirty] 51 * (tlbAt t l * R))))))))
        clear h5 x5 HA
        go_upto_region 9 with fail
        go_region_held3 (fun w' => w'.cell? ⟨b, 1, none⟩ = some (.pointer (some ⟨v, 0, none⟩)) ∧ w'.cell? ⟨X0, 0, none⟩ = some ((Value.int .i64) a.page) ∧ w'.cell? ⟨X0, 1, none⟩ = some ((Value.int .i64) a.kind) ∧ w'.cell? ⟨X0, 2, none⟩ = some (Value.bool a.user)) (first | (with_reducible exact HK.out _ _ _ h6) | (with_reducible exact HK.out _ _ _ h6d) | (with_reducible exact HK.out _ _ _ hL) | (with_reducible exact HK.out _ _ _ sL) | go_keep) (first | (go_at_call 24; first | ((with_reducible refine (HB.out _ _ _ h6).mono ?_); rintro e w7 ⟨rfl, hL, xL⟩; obtain ⟨s0, s1, s2⟩ := hL.right.right.right.cells3; obtain ⟨t0, t1, t2⟩ := hL.right.right.right.frees3; have sl := hL.right.right.right.lt; have sL := HKS.out _ _ _ _ hL) | ((with_reducible refine (HB.out _ _ _ h6d).mono ?_); rintro e w7 ⟨rfl, hL, xL⟩; obtain ⟨s0, s1, s2⟩ := hL.right.right.right.cells3; obtain ⟨t0, t1, t2⟩ := hL.right.right.right.frees3; have sl := hL.right.right.right.lt; have sL := HKS.out _ _ _ _ hL)))
        all_goals
          go_wp2_with fail
          refine ret_via (fun wz => Has wz (blk X1 #[(Value.int .i64) 0, (Value.int .i64) 0, (Value.int .i64) 0] 49 * (walkerAt v root (k.begin root a) * (blk b #[.pointer (some ⟨t, 0, none⟩), .pointer (some ⟨v, 0, none⟩)] 140 * (blk X0 #[(Value.int .i64) a.page, (Value.int .i64) a.kind, Value.bool a.user] 29 * (blk V #[(Value.int .i64) x.m.page, (Value.int .i64) x.m.size, (Value.int .i64) x.m.frame, (Value.int .i64) x.m.rights, Value.bool x.dirty] 51 * (tlbAt t l * R)))))) ∧ Ext W wz) ⟨by first | exact sL.eq (by ac_rfl) | exact hL.eq (by ac_rfl), by (repeat (first | with_reducible assumption | with_reducible exact Ext.refl _ | with_reducible refine Ext.set ?_ _ _ | with_reducible refine Ext.alloc ?_ _ | with_reducible refine Ext.drew ?_ | with_reducible refine Ext.drewN ?_ _ | assumption | exact Ext.refl _ | refine Ext.alloc ?_ _ | refine Ext.set ?_ _ _ | refine Ext.drew ?_ | refine Ext.drewN ?_ _ | refine Ext.below ?_ (by assumption) | refine Ext.trans ?_ (by assumption)))⟩ ?_
          rintro wz ⟨hz, xz⟩
          exact bodyPost_ret (results_ctt Try.results75 rfl rfl rfl (load_answer hz)) rfl ⟨rfl, (pcAt_shut (hz.right.eq (show _ = blk b #[.pointer (some ⟨t, 0, none⟩), .pointer (some ⟨v, 0, none⟩)] 140 * (tlbAt t l * (walkerAt v root (k.begin root a) * (blk X0 #[(Value.int .i64) a.page, (Value.int .i64) a.kind, Value.bool a.user] 29 * (blk V #[(Value.int .i64) x.m.page, (Value.int .i64) x.m.size, (Value.int .i64) x.m.frame, (Value.int .i64) x.m.rights, Value.bool x.dirty] 51 * R)))) by ac_rfl))).p2.right.p2.right, xz⟩
theorem beginC (b : Nat) (l : List Ln) (root : Int) (k : Ck) (a : Ac) (hl : Tl.Ok l) (hp : i64 a.page) (R : HProp) (W : World) (h : Has W (pcAt b l root k * R)) :
    Calls Try.prog 75 #[.pointer (some ⟨b, 0, none⟩), .agg #[(Value.int .i64) a.page, (Value.int .i64) a.kind, Value.bool a.user]] W
      (Res (.tuple #[.agg #[(Value.int .i64) (coreB l root k a).an.fin, (Value.int .i64) (coreB l root k a).an.frame, (Value.int .i64) (coreB l root k a).an.rights], Value.bool (coreB l root k a).fin, (Value.int .i64) (coreB l root k a).code]) (pcAt b l root (coreB l root k a).c * R) W) := by
  by_cases ha : checkAccess a = 0
  · cases hon : k.on with
    | true =>
      have e : coreB l root k a = ⟨An.zero, false, 8, k⟩ := by unfold coreB; rw [if_neg (by rw [ha]; simp), if_pos hon]
      rw [e]
      exact beginC_busy b l root k a ha hon R W h
    | false =>
      have e : coreB l root k a = match hitA l a with | some r => ⟨r, true, 0, k⟩ | none => ⟨An.zero, false, 0, k.begin root a⟩ := by unfold coreB; rw [if_neg (by rw [ha]; simp), if_neg (by rw [hon]; simp)]; rfl
      cases hf : Tl.find l a.page with
      | none =>
        have e2 : hitA l a = none := by unfold hitA; rw [hf]
        rw [e2] at e
        exact beginC_free b l root k a ha hon hl hp Ln.zero false false (answer Ln.zero.m a) _ (Lib.hid ⟨by rw [hf]; rfl, by rw [hf]; rfl⟩) (Lib.hid rfl) (Lib.hid rfl) (Lib.hid e) R W h
      | some x =>
        cases hu : useL x a with
        | true =>
          have e2 : hitA l a = some (answer x.m a) := by
            unfold hitA; rw [hf]
            refine if_pos ?_
            unfold useL at hu
            simpa using hu
          rw [e2] at e
          exact beginC_free b l root k a ha hon hl hp x true true (answer x.m a) _ (Lib.hid ⟨by rw [hf]; rfl, by rw [hf]; rfl⟩) (Lib.hid (by rw [hu]; rfl)) (Lib.hid rfl) (Lib.hid e) R W h
        | false =>
          have e2 : hitA l a = none := by
            unfold hitA; rw [hf]
            refine if_neg fun h => ?_
            have : useL x a = true := by unfold useL; simpa using h
            rw [this] at hu; cases hu
          rw [e2] at e
          exact beginC_free b l root k a ha hon hl hp x true false (answer x.m a) _ (Lib.hid ⟨by rw [hf]; rfl, by rw [hf]; rfl⟩) (Lib.hid (by rw [hu]; rfl)) (Lib.hid rfl) (Lib.hid e) R W h
  · have e : coreB l root k a = ⟨An.zero, false, checkAccess a, k⟩ := by unfold coreB; rw [if_pos ha]
    rw [e]
    exact beginC_bad b l root k a ha R W h
end Go.Proofs.Ytndhgomikpokpaa

namespace Go.Proofs.Ytndhgomikpokpaa
open Go.RowKit
set_option maxRecDepth 100000

theorem beginR_bad (q : Nat) (l : List Ln) (root : Int) (k : Ck) (a : Ac) (ha : checkAccess a ≠ 0) (R : HProp) (W : World) (h : Has W (coreAt q l k * R)) :
    Calls Try.prog 46 #[.pointer (some ⟨q, 0, none⟩), (Value.int .i64) root, .agg #[(Value.int .i64) a.page, (Value.int .i64) a.kind, Value.bool a.user]] W (Res (.tuple #[.agg #[(Value.int .i64) 0, (Value.int .i64) 0, (Value.int .i64) 0], Value.bool false, (Value.int .i64) (checkAccess a)]) (coreAt q l k * R) W) := by
  have hn : (checkAccess ⟨a.page, a.kind, a.user⟩ != 0) = true := by simpa using ha
  have h1 : Has _ (coreAt q l k * (blk (W.heap.size + 1) #[(Value.int .i64) 0, (Value.int .i64) 0, (Value.int .i64) 0] 49 * (blk W.heap.size #[(Value.int .i64) a.page, (Value.int .i64) a.kind, Value.bool a.user] 29 * R))) := ((h.new #[(Value.int .i64) a.page, (Value.int .i64) a.kind, Value.bool a.user] 29).new #[(Value.int .i64) 0, (Value.int .i64) 0, (Value.int .i64) 0] 49).eq (by simp only [World.size_alloc]; ac_rfl)
  have x1 := ((Ext.refl W).alloc (.cells #[(Value.int .i64) a.page, (Value.int .i64) a.kind, Value.bool a.user] 29)).alloc (.cells #[(Value.int .i64) 0, (Value.int .i64) 0, (Value.int .i64) 0] 49)
  have HC := Lib.hid (fun X => accessFault_any a.page a.kind a.user X)
  clear h
  go_enter Try.func46, Try.ntmps46
  go_upto_region 1 with fail
  generalize (W.alloc (.cells #[(Value.int .i64) a.page, (Value.int .i64) a.kind, Value.bool a.user] 29)).alloc (.cells #[(Value.int .i64) 0, (Value.int .i64) 0, (Value.int .i64) 0] 49) = W1 at *
  generalize W.heap.size + 1 = X1 at *
  generalize W.heap.size = X0 at *
  obtain ⟨a0, a1, a2⟩ := h1.right.right.cells3
  have al := h1.right.right.lt
  go_wp2_with fail
  refine (HC.out _).mono ?_; rintro e w2 ⟨rfl, b2⟩
  have h2 := h1.below b2
  have x2 := x1.below b2
  clear h1 x1 a0 a1 a2 al b2 HC
  rw [show checkAccess a = checkAccess ⟨a.page, a.kind, a.user⟩ from rfl]
  generalize checkAccess ⟨a.page, a.kind, a.user⟩ = ca at *
  have hA := h2.p2
  obtain ⟨r0, r1, r2⟩ := hA.cells3
  obtain ⟨g0, g1, g2⟩ := hA.frees3
  have rl := hA.lt
  go_wp2_with fail
  refine ret_via (fun wz => Has wz (blk X1 #[(Value.int .i64) 0, (Value.int .i64) 0, (Value.int .i64) 0] 49 * (coreAt q l k * (blk X0 #[(Value.int .i64) a.page, (Value.int .i64) a.kind, Value.bool a.user] 29 * R))) ∧ Ext W wz) ⟨hA.set3 _ _ _, by (repeat (first | with_reducible assumption | with_reducible exact Ext.refl _ | with_reducible refine Ext.set ?_ _ _ | with_reducible refine Ext.alloc ?_ _ | with_reducible refine Ext.drew ?_ | with_reducible refine Ext.drewN ?_ _ | assumption | exact Ext.refl _ | refine Ext.alloc ?_ _ | refine Ext.set ?_ _ _ | refine Ext.drew ?_ | refine Ext.drewN ?_ _ | refine Ext.below ?_ (by assumption) | refine Ext.trans ?_ (by assumption)))⟩ ?_
  rintro wz ⟨hz, xz⟩
  exact bodyPost_ret (results_ctt Try.results46 rfl rfl rfl (load_answer hz)) rfl ⟨rfl, hz.right.p2.right, xz⟩
theorem beginR_busy (q : Nat) (l : List Ln) (root : Int) (k : Ck) (a : Ac) (ha : checkAccess a = 0) (hon : k.on = true) (R : HProp) (W : World) (h : Has W (coreAt q l k * R)) :
    Calls Try.prog 46 #[.pointer (some ⟨q, 0, none⟩), (Value.int .i64) root, .agg #[(Value.int .i64) a.page, (Value.int .i64) a.kind, Value.bool a.user]] W (Res (.tuple #[.agg #[(Value.int .i64) 0, (Value.int .i64) 0, (Value.int .i64) 0], Value.bool false, (Value.int .i64) 8]) (coreAt q l k * R) W) := by
  have ha' : checkAccess ⟨a.page, a.kind, a.user⟩ = 0 := ha
  clear ha
  have h1 : Has _ (coreAt q l k * (blk (W.heap.size + 1) #[(Value.int .i64) 0, (Value.int .i64) 0, (Value.int .i64) 0] 49 * (blk W.heap.size #[(Value.int .i64) a.page, (Value.int .i64) a.kind, Value.bool a.user] 29 * R))) := ((h.new #[(Value.int .i64) a.page, (Value.int .i64) a.kind, Value.bool a.user] 29).new #[(Value.int .i64) 0, (Value.int .i64) 0, (Value.int .i64) 0] 49).eq (by simp only [World.size_alloc]; ac_rfl)
  have x1 := ((Ext.refl W).alloc (.cells #[(Value.int .i64) a.page, (Value.int .i64) a.kind, Value.bool a.user] 29)).alloc (.cells #[(Value.int .i64) 0, (Value.int .i64) 0, (Value.int .i64) 0] 49)
  have HC := Lib.hid (fun X => accessFault_any a.page a.kind a.user X)
  clear h
  go_enter Try.func46, Try.ntmps46
  go_upto_region 1 with fail
  generalize (W.alloc (.cells #[(Value.int .i64) a.page, (Value.int .i64) a.kind, Value.bool a.user] 29)).alloc (.cells #[(Value.int .i64) 0, (Value.int .i64) 0, (Value.int .i64) 0] 49) = W1 at *
  generalize W.heap.size + 1 = X1 at *
  generalize W.heap.size = X0 at *
  obtain ⟨a0, a1, a2⟩ := h1.right.right.cells3
  have al := h1.right.right.lt
  go_wp2_with fail
  refine (HC.out _).mono ?_; rintro e w2 ⟨rfl, b2⟩
  have h2 := h1.below b2
  have x2 := x1.below b2
  clear h1 x1 a0 a1 a2 al b2 HC
  rw [ha']
  obtain ⟨A, c, h3⟩ := coreAt_open h2
  obtain ⟨q1, q2, q3, q4, q5, q6, q7, q8, ql⟩ := core_cells h3
  rw [hon] at q1
  have hA := h2.p2
  obtain ⟨r0, r1, r2⟩ := hA.cells3
  obtain ⟨g0, g1, g2⟩ := hA.frees3
  have rl := hA.lt
  clear h3 hon q2 q3 q4 q5 q6 q7 q8
  go_wp2_with fail
  refine ret_via (fun wz => Has wz (blk X1 #[(Value.int .i64) 0, (Value.int .i64) 0, (Value.int .i64) 0] 49 * (coreAt q l k * (blk X0 #[(Value.int .i64) a.page, (Value.int .i64) a.kind, Value.bool a.user] 29 * R))) ∧ Ext W wz) ⟨hA.set3 _ _ _, by (repeat (first | with_reducible assumption | with_reducible exact Ext.refl _ | with_reducible refine Ext.set ?_ _ _ | with_reducible refine Ext.alloc ?_ _ | with_reducible refine Ext.drew ?_ | with_reducible refine Ext.drewN ?_ _ | assumption | exact Ext.refl _ | refine Ext.alloc ?_ _ | refine Ext.set ?_ _ _ | refine Ext.drew ?_ | refine Ext.drewN ?_ _ | refine Ext.below ?_ (by assumption) | refine Ext.trans ?_ (by assumption)))⟩ ?_
  rintro wz ⟨hz, xz⟩
  exact bodyPost_ret (results_ctt Try.results46 rfl rfl rfl (load_answer hz)) rfl ⟨rfl, hz.right.p2.right, xz⟩
set_option maxHeartbeats 4000000 in
theorem beginR_none (q : Nat) (l : List Ln) (root : Int) (k : Ck) (a : Ac) (hl : Tl.Ok l) (ha : checkAccess a = 0) (hp : i64 a.page) (hon : k.on = false) (hi : Tl.idx l a.page = -1) (R : HProp) (W : World) (h : Has W (coreAt q l k * R)) :
    Calls Try.prog 46 #[.pointer (some ⟨q, 0, none⟩), (Value.int .i64) root, .agg #[(Value.int .i64) a.page, (Value.int .i64) a.kind, Value.bool a.user]] W (Res (.tuple #[.agg #[(Value.int .i64) 0, (Value.int .i64) 0, (Value.int .i64) 0], Value.bool false, (Value.int .i64) 0]) (coreAt q l (k.begin root a) * R) W) := by
  have ha' : checkAccess ⟨a.page, a.kind, a.user⟩ = 0 := ha
  have HKP := Lib.hid (fun R X h => keptRA q l k a.page R X hl hp h)
  have HAG := Lib.hid (fun R X h => againR q root l { k with on := true, a := a } R X h)
  have hag : ({ k with on := true, a := a } : Ck).again root = k.begin root a := by unfold Ck.again Ck.begin; rw [if_pos rfl]
  rw [hag] at HAG
  rw [hi] at HKP
  clear hi hl
  clear ha hp hag
  have h1 : Has _ (coreAt q l k * (blk (W.heap.size + 1) #[(Value.int .i64) 0, (Value.int .i64) 0, (Value.int .i64) 0] 49 * (blk W.heap.size #[(Value.int .i64) a.page, (Value.int .i64) a.kind, Value.bool a.user] 29 * R))) := ((h.new #[(Value.int .i64) a.page, (Value.int .i64) a.kind, Value.bool a.user] 29).new #[(Value.int .i64) 0, (Value.int .i64) 0, (Value.int .i64) 0] 49).eq (by simp only [World.size_alloc]; ac_rfl)
  have x1 := ((Ext.refl W).alloc (.cells #[(Value.int .i64) a.page, (Value.int .i64) a.kind, Value.bool a.user] 29)).alloc (.cells #[(Value.int .i64) 0, (Value.int .i64) 0, (Value.int .i64) 0] 49)
  have HC := Lib.hid (fun X => accessFault_any a.page a.kind a.user X)
  clear h
  go_enter Try.func46, Try.ntmps46
  go_upto_region 1 with fail
  generalize (W.alloc (.cells #[(Value.int .i64) a.page, (Value.int .i64) a.kind, Value.bool a.user] 29)).alloc (.cells #[(Value.int .i64) 0, (Value.int .i64) 0, (Value.int .i64) 0] 49) = W1 at *
  generalize W.heap.size + 1 = X1 at *
  generalize W.heap.size = X0 at *
  obtain ⟨a0, a1, a2⟩ := h1.right.right.cells3
  have al := h1.right.right.lt
  go_wp2_with fail
  refine (HC.out _).mono ?_; rintro e w2 ⟨rfl, b2⟩
  have h2 := h1.below b2
  have x2 := x1.below b2
  clear h1 x1 a0 a1 a2 al b2 HC
  rw [ha']
  obtain ⟨a0, a1, a2⟩ := h2.right.right.cells3
  have al := h2.right.right.lt
  obtain ⟨A, c, h3⟩ := coreAt_open h2
  obtain ⟨q1, q2, q3, q4, q5, q6, q7, q8, ql⟩ := core_cells h3
  rw [hon] at q1
  go_wp2_with fail
  refine (HKP.out _ _ h2).mono ?_; rintro e w4 ⟨rfl, b4⟩
  have h5 := h3.below b4
  have x5 := x2.below b4
  clear h2 h3 x2 a0 a1 a2 al b4 HKP q1 q2 q3 q4 q5 q6 q7 q8 ql ha' hon
  go_upto_region 11 with fail
  go_cut [] from 58 to 64 (fun wx => Has wx (coreIn q A c l { k with on := true, a := a } (blk X1 #[(Value.int .i64) 0, (Value.int .i64) 0, (Value.int .i64) 0] 49 * (blk X0 #[(Value.int .i64) a.page, (Value.int .i64) a.kind, Value.bool a.user] 29 * R))) ∧ Ext W wx)
  case first =>
    have h6 : Has _ (coreBlk q (.slice A l.length c) k * (blk X0 #[(Value.int .i64) a.page, (Value.int .i64) a.kind, Value.bool a.user] 29 * (rrow (.slice A l.length c) l * (blk X1 #[(Value.int .i64) 0, (Value.int .i64) 0, (Value.int .i64) 0] 49 * R)))) := h5.eq (by unfold coreIn; ac_rfl)
    unfold coreBlk at h6
    have n1 := h6.ne
    have n2 := n1.symm
    obtain ⟨a0, a1, a2⟩ := h6.right.cells3
    have al := h6.right.lt
    have f1 := h6.free 1
    have f2 := h6.free 2
    have f3 := h6.free 3
    have f4 := h6.free 4
    obtain ⟨q1, q2, q3, q4, q5, q6, q7, q8, ql⟩ := core_cells h5
    go_region
    all_goals
      go_wp2_with fail
      go_meet
      case rel => first | exact ⟨(core_begin h5 a).drew, ((((x5.set _ _).set _ _).set _ _).set _ _).drew⟩ | exact ⟨core_begin h5.drew a, (((x5.drew.set _ _).set _ _).set _ _).set _ _⟩
  case rest =>
    clear h5 x5
    obtain ⟨h6, x6⟩ := hcut
    go_wp2_with fail
    refine (HAG.out _ _ (coreAt_shut h6)).mono ?_; rintro e w7 ⟨rfl, h7, x7⟩
    have hA := h7.p2
    have xA := x6.trans x7
    obtain ⟨r0, r1, r2⟩ := hA.cells3
    obtain ⟨g0, g1, g2⟩ := hA.frees3
    have rl := hA.lt
    clear h6 x6 h7 x7
    go_wp2_with fail
    refine ret_via (fun wz => Has wz (blk X1 #[(Value.int .i64) 0, (Value.int .i64) 0, (Value.int .i64) 0] 49 * (coreAt q l (k.begin root a) * (blk X0 #[(Value.int .i64) a.page, (Value.int .i64) a.kind, Value.bool a.user] 29 * R))) ∧ Ext W wz) ⟨hA.set3 _ _ _, by (repeat (first | with_reducible assumption | with_reducible exact Ext.refl _ | with_reducible refine Ext.set ?_ _ _ | with_reducible refine Ext.alloc ?_ _ | with_reducible refine Ext.drew ?_ | with_reducible refine Ext.drewN ?_ _ | assumption | exact Ext.refl _ | refine Ext.alloc ?_ _ | refine Ext.set ?_ _ _ | refine Ext.drew ?_ | refine Ext.drewN ?_ _ | refine Ext.below ?_ (by assumption) | refine Ext.trans ?_ (by assumption)))⟩ ?_
    rintro wz ⟨hz, xz⟩
    exact bodyPost_ret (results_ctt Try.results46 rfl rfl rfl (load_answer hz)) rfl ⟨rfl, hz.right.p2.right, xz⟩
set_option maxHeartbeats 8000000 in
theorem beginR_kept (q : Nat) (l : List Ln) (root : Int) (k : Ck) (a : Ac) (hl : Tl.Ok l) (ha : checkAccess a = 0) (hp : i64 a.page) (hon : k.on = false) (j : Nat) (hj : j < l.length) (hi : Tl.idx l a.page = j) (x : Ln) (hx : Hid (l[j] = x)) (an : An) (hAn : Hid (answer x.m a = an)) (hit : Bool) (hh : Hid (hit = useL x a)) (b : Bq) (hb : Hid (b = if hit = true then ⟨an, true, 0, k⟩ else ⟨An.zero, false, 0, k.begin root a⟩))
    (R : HProp) (W : World) (h : Has W (coreAt q l k * R)) :
    Calls Try.prog 46 #[.pointer (some ⟨q, 0, none⟩), (Value.int .i64) root, .agg #[(Value.int .i64) a.page, (Value.int .i64) a.kind, Value.bool a.user]] W (Res (.tuple #[.agg #[(Value.int .i64) b.an.fin, (Value.int .i64) b.an.frame, (Value.int .i64) b.an.rights], Value.bool b.fin, (Value.int .i64) b.code]) (coreAt q l b.c * R) W) := by
  have ha' : checkAccess ⟨a.page, a.kind, a.user⟩ = 0 := ha
  have HKP := Lib.hid (fun R X h => keptRA q l k a.page R X hl hp h)
  have HAG := Lib.hid (fun R X h => againR q root l { k with on := true, a := a } R X h)
  have hag : ({ k with on := true, a := a } : Ck).again root = k.begin root a := by unfold Ck.again Ck.begin; rw [if_pos rfl]
  rw [hag] at HAG
  rw [hi] at HKP
  have hsm : l.length ≤ 6 := hl.len
  have HAN := Lib.hid (fun X => answerOf_any x.m a.page a.kind a.user X)
  rw [show answer x.m ⟨a.page, a.kind, a.user⟩ = an from hAn.out] at HAN
  have hfin : Hid ((an.fin != 0) = !may x.m.rights a) := Lib.hid (by rw [← hAn.out]; unfold answer; split <;> simp_all)
  clear hi hl hAn
  clear ha hp hag
  have h1 : Has _ (coreAt q l k * (blk (W.heap.size + 1) #[(Value.int .i64) 0, (Value.int .i64) 0, (Value.int .i64) 0] 49 * (blk W.heap.size #[(Value.int .i64) a.page, (Value.int .i64) a.kind, Value.bool a.user] 29 * R))) := ((h.new #[(Value.int .i64) a.page, (Value.int .i64) a.kind, Value.bool a.user] 29).new #[(Value.int .i64) 0, (Value.int .i64) 0, (Value.int .i64) 0] 49).eq (by simp only [World.size_alloc]; ac_rfl)
  have x1 := ((Ext.refl W).alloc (.cells #[(Value.int .i64) a.page, (Value.int .i64) a.kind, Value.bool a.user] 29)).alloc (.cells #[(Value.int .i64) 0, (Value.int .i64) 0, (Value.int .i64) 0] 49)
  have HC := Lib.hid (fun X => accessFault_any a.page a.kind a.user X)
  clear h
  go_enter Try.func46, Try.ntmps46
  go_upto_region 1 with fail
  generalize (W.alloc (.cells #[(Value.int .i64) a.page, (Value.int .i64) a.kind, Value.bool a.user] 29)).alloc (.cells #[(Value.int .i64) 0, (Value.int .i64) 0, (Value.int .i64) 0] 49) = W1 at *
  generalize W.heap.size + 1 = X1 at *
  generalize W.heap.size = X0 at *
  obtain ⟨a0, a1, a2⟩ := h1.right.right.cells3
  have al := h1.right.right.lt
  go_wp2_with fail
  refine (HC.out _).mono ?_; rintro e w2 ⟨rfl, b2⟩
  have h2 := h1.below b2
  have x2 := x1.below b2
  clear h1 x1 a0 a1 a2 al b2 HC
  rw [ha']
  obtain ⟨a0, a1, a2⟩ := h2.right.right.cells3
  have al := h2.right.right.lt
  obtain ⟨A, c, h3⟩ := coreAt_open h2
  obtain ⟨q1, q2, q3, q4, q5, q6, q7, q8, ql⟩ := core_cells h3
  rw [hon] at q1
  go_wp2_with fail
  refine (HKP.out _ _ h2).mono ?_; rintro e w4 ⟨rfl, b4⟩
  have h5 := h3.below b4
  have x5 := x2.below b4
  clear h2 h3 x2 a0 a1 a2 al b4 HKP q1 q2 q3 q4 q5 q6 q7 q8 ql ha' hon
  obtain ⟨g, off, rfl, gl, d0, d1, d2, d3, d4⟩ := rrow_at h5.right hj
  rw [hx.out] at d0 d1 d2 d3 d4
  have hji : (j : Int) < l.length := by omega
  have hj0 : ¬ ((j : Int) < 0) := by omega
  have HK := Lib.hid (fun (w' : World) (P Q : HProp) (h : Has w' (coreIn q (some ⟨g, off, none⟩) c l k (P * (blk X0 #[(Value.int .i64) a.page, (Value.int .i64) a.kind, Value.bool a.user] 29 * Q)))) => (by
    obtain ⟨g', off', e, _, d0, d1, d2, d3, d4⟩ := rrow_at h.right hj
    injection e with e
    injection e with e1 e2
    subst e1; subst e2
    rw [hx.out] at d0 d1 d2 d3 d4
    obtain ⟨a0, a1, a2⟩ := h.right.right.right.cells3
    have q0 := h
    unfold coreIn coreBlk at q0
    exact ⟨q0.cell 0, d0, d1, d2, d3, d4, a0, a1, a2⟩ : w'.cell? ⟨q, 0, none⟩ = some (.slice (some ⟨g, off, none⟩) l.length c) ∧ w'.cell? ⟨g, off + j * 5, none⟩ = some ((Value.int .i64) x.m.page) ∧ w'.cell? ⟨g, off + j * 5 + 1, none⟩ = some ((Value.int .i64) x.m.size) ∧ w'.cell? ⟨g, off + j * 5 + 2, none⟩ = some ((Value.int .i64) x.m.frame) ∧ w'.cell? ⟨g, off + j * 5 + 3, none⟩ = some ((Value.int .i64) x.m.rights) ∧ w'.cell? ⟨g, off + j * 5 + 4, none⟩ = some (Value.bool x.dirty) ∧ w'.cell? ⟨X0, 0, none⟩ = some ((Value.int .i64) a.page) ∧ w'.cell? ⟨X0, 1, none⟩ = some ((Value.int .i64) a.kind) ∧ w'.cell? ⟨X0, 2, none⟩ = some (Value.bool a.user)))
  obtain ⟨q0, _, _, _, _, _, a0, a1, a2⟩ := HK.out _ _ _ h5
  have ql := (core_cells h5).2.2.2.2.2.2.2.2
  have al := h5.right.right.right.lt
  go_upto_region 8 with fail
  go_cut [11] from 29 to 39 (fun s11 wx => ∃ V : Nat, s11 = .pointer (some ⟨V, 0, none⟩) ∧ Has wx (coreIn q (some ⟨g, off, none⟩) c l k (blk X1 #[(Value.int .i64) 0, (Value.int .i64) 0, (Value.int .i64) 0] 49 * (blk X0 #[(Value.int .i64) a.page, (Value.int .i64) a.kind, Value.bool a.user] 29 * (blk V #[(Value.int .i64) an.fin, (Value.int .i64) an.frame, (Value.int .i64) an.rights] 49 * R)))) ∧ Ext W wx)
  case first =>
    have h6 := h5.drew
    have x6 := x5.drew
    have z6 : Has (w4.alloc (.cells #[(Value.int .i64) 0, (Value.int .i64) 0, (Value.int .i64) 0] 49)).drew (coreIn q (some ⟨g, off, none⟩) c l k (blk X1 #[(Value.int .i64) 0, (Value.int .i64) 0, (Value.int .i64) 0] 49 * (blk X0 #[(Value.int .i64) a.page, (Value.int .i64) a.kind, Value.bool a.user] 29 * (blk w4.heap.size #[(Value.int .i64) 0, (Value.int .i64) 0, (Value.int .i64) 0] 49 * R)))) := (h5.new #[(Value.int .i64) 0, (Value.int .i64) 0, (Value.int .i64) 0] 49).drew.eq (by unfold coreIn; ac_rfl)
    have y6 := (x5.alloc (.cells #[(Value.int .i64) 0, (Value.int .i64) 0, (Value.int .i64) 0] 49)).drew
    go_region_held3 (fun w' => w'.cell? ⟨q, 0, none⟩ = some (.slice (some ⟨g, off, none⟩) l.length c) ∧ w'.cell? ⟨g, off + j * 5, none⟩ = some ((Value.int .i64) x.m.page) ∧ w'.cell? ⟨g, off + j * 5 + 1, none⟩ = some ((Value.int .i64) x.m.size) ∧ w'.cell? ⟨g, off + j * 5 + 2, none⟩ = some ((Value.int .i64) x.m.frame) ∧ w'.cell? ⟨g, off + j * 5 + 3, none⟩ = some ((Value.int .i64) x.m.rights) ∧ w'.cell? ⟨g, off + j * 5 + 4, none⟩ = some (Value.bool x.dirty) ∧ w'.cell? ⟨X0, 0, none⟩ = some ((Value.int .i64) a.page) ∧ w'.cell? ⟨X0, 1, none⟩ = some ((Value.int .i64) a.kind) ∧ w'.cell? ⟨X0, 2, none⟩ = some (Value.bool a.user)) (first | (with_reducible exact HK.out _ _ _ h6) | (with_reducible exact HK.out _ _ _ z6) | (with_reducible exact HK.out _ _ _ hL) | (with_reducible exact HK.out _ _ _ gL) | (with_reducible exact HK.out _ _ _ hN) | (with_reducible exact HK.out _ _ _ gN) | go_keep) (first | (go_at_call 29; first | ((with_reducible refine (HAN.out _).mono ?_); rintro e w7 ⟨rfl, b7⟩; first | (have hL := h6.below b7; have xL := x6.below b7; have hN : Has _ (coreIn q (some ⟨g, off, none⟩) c l k (blk X1 #[(Value.int .i64) 0, (Value.int .i64) 0, (Value.int .i64) 0] 49 * (blk X0 #[(Value.int .i64) a.page, (Value.int .i64) a.kind, Value.bool a.user] 29 * (blk w7.heap.size #[(Value.int .i64) an.fin, (Value.int .i64) an.frame, (Value.int .i64) an.rights] 49 * R)))) := (hL.new #[(Value.int .i64) an.fin, (Value.int .i64) an.frame, (Value.int .i64) an.rights] 49).eq (by unfold coreIn; ac_rfl)) | (have gL := z6.below b7; have yL := y6.below b7; have gM : Has _ (blk w4.heap.size #[(Value.int .i64) 0, (Value.int .i64) 0, (Value.int .i64) 0] 49 * coreIn q (some ⟨g, off, none⟩) c l k (blk X1 #[(Value.int .i64) 0, (Value.int .i64) 0, (Value.int .i64) 0] 49 * (blk X0 #[(Value.int .i64) a.page, (Value.int .i64) a.kind, Value.bool a.user] 29 * R))) := gL.eq (by unfold coreIn; ac_rfl); obtain ⟨z0, z1, z2⟩ := gM.cells3; obtain ⟨y0, y1, y2⟩ := gM.frees3; have zl := gM.lt; have gN : Has _ (coreIn q (some ⟨g, off, none⟩) c l k (blk X1 #[(Value.int .i64) 0, (Value.int .i64) 0, (Value.int .i64) 0] 49 * (blk X0 #[(Value.int .i64) a.page, (Value.int .i64) a.kind, Value.bool a.user] 29 * (blk w4.heap.size #[(Value.int .i64) an.fin, (Value.int .i64) an.frame, (Value.int .i64) an.rights] 49 * R)))) := (gM.set3 ((Value.int .i64) an.fin) ((Value.int .i64) an.frame) ((Value.int .i64) an.rights)).eq (by unfold coreIn; ac_rfl)))))
    all_goals
      go_wp2_with fail
      go_meet
      case rel => first | exact ⟨_, rfl, hN, xL.alloc _⟩ | exact ⟨_, rfl, gN, ((yL.set _ _).set _ _).set _ _⟩
  case rest =>
    clear h5 x5 q0 d0 d1 d2 d3 d4 a0 a1 a2 ql al gl HAN
    obtain ⟨V, rfl, h5, x5⟩ := hcut
    obtain ⟨q0, _, _, _, _, d4, a0, a1, a2⟩ := HK.out _ _ _ h5
    obtain ⟨r0, r1, r2⟩ := h5.right.right.right.right.cells3
    have rl := h5.right.right.right.right.lt
    have ql := (core_cells h5).2.2.2.2.2.2.2.2
    have al := h5.right.right.right.lt
    have gl : g < wc.heap.size := by
      obtain ⟨g', off', e, gl, _⟩ := rrow_at h5.right hj
      injection e with e
      injection e with e1 e2
      rw [e1]; exact gl
    go_upto_region 9 with fail
    go_cut [56] from 39 to 56 (fun s56 wx => s56 = Value.bool hit ∧ wx = wc)
    case first =>
      have hh := Lib.hid (show hit = (x.dirty || (a.kind != 1 || (an.fin != 0))) by rw [hh.out, hfin.out]; rfl)
      cases hf : (an.fin != 0) with
      | true =>
        rw [hf] at hh
        go_wp2_with fail
        go_meet
        case rel => exact ⟨by rw [hh.out]; simp, rfl⟩
      | false =>
        rw [hf] at hh
        cases hk1 : (a.kind != 1) with
        | true =>
          rw [hk1] at hh
          go_wp2_with fail
          go_meet
          case rel => exact ⟨by rw [hh.out]; simp, rfl⟩
        | false =>
          rw [hk1] at hh
          go_wp2_with fail
          go_meet
          case rel => exact ⟨by rw [hh.out]; simp, rfl⟩
    case rest =>
      obtain ⟨rfl, rfl⟩ := hcut
      have hb := hb.out
      cases hit with
      | true =>
        rw [if_pos rfl] at hb
        subst hb
        try dsimp only
        have h7 : Has _ (blk X1 #[(Value.int .i64) 0, (Value.int .i64) 0, (Value.int .i64) 0] 49 * (blk V #[(Value.int .i64) an.fin, (Value.int .i64) an.frame, (Value.int .i64) an.rights] 49 * (coreIn q (some ⟨g, off, none⟩) c l k (blk X0 #[(Value.int .i64) a.page, (Value.int .i64) a.kind, Value.bool a.user] 29 * R)))) := h5.eq (by unfold coreIn; ac_rfl)
        obtain ⟨s0, s1, s2⟩ := h7.cells3
        obtain ⟨g0, g1, g2⟩ := h7.frees3
        have sl := h7.lt
        have vn := h7.ne
        have vn' := vn.symm
        clear HK
        go_wp2_with fail
        refine ret_via (fun wz => Has wz (blk X1 #[(Value.int .i64) an.fin, (Value.int .i64) an.frame, (Value.int .i64) an.rights] 49 * (blk V #[(Value.int .i64) an.fin, (Value.int .i64) an.frame, (Value.int .i64) an.rights] 49 * (coreIn q (some ⟨g, off, none⟩) c l k (blk X0 #[(Value.int .i64) a.page, (Value.int .i64) a.kind, Value.bool a.user] 29 * R)))) ∧ Ext W wz) ⟨h7.set3 _ _ _, by (repeat (first | with_reducible assumption | with_reducible exact Ext.refl _ | with_reducible refine Ext.set ?_ _ _ | with_reducible refine Ext.alloc ?_ _ | with_reducible refine Ext.drew ?_ | with_reducible refine Ext.drewN ?_ _ | assumption | exact Ext.refl _ | refine Ext.alloc ?_ _ | refine Ext.set ?_ _ _ | refine Ext.drew ?_ | refine Ext.drewN ?_ _ | refine Ext.below ?_ (by assumption) | refine Ext.trans ?_ (by assumption)))⟩ ?_
        rintro wz ⟨hz, xz⟩
        exact bodyPost_ret (results_ctt Try.results46 rfl rfl rfl (load_answer hz)) rfl ⟨rfl, (coreAt_shut hz.right.right).p2.right, xz⟩
      | false =>
        rw [if_neg (by simp)] at hb
        subst hb
        try dsimp only [An.zero]
        clear HK hh
        generalize hA' : some (⟨g, off, none⟩ : Addr) = A at h5
        clear hA' q0 d4 a0 a1 a2 r0 r1 r2 rl ql al gl
        go_upto_region 11 with fail
        go_cut [] from 58 to 64 (fun wx => Has wx (coreIn q A c l { k with on := true, a := a } (blk X1 #[(Value.int .i64) 0, (Value.int .i64) 0, (Value.int .i64) 0] 49 * (blk X0 #[(Value.int .i64) a.page, (Value.int .i64) a.kind, Value.bool a.user] 29 * (blk V #[(Value.int .i64) an.fin, (Value.int .i64) an.frame, (Value.int .i64) an.rights] 49 * R)))) ∧ Ext W wx)
        case first =>
          have h6 : Has _ (coreBlk q (.slice A l.length c) k * (blk X0 #[(Value.int .i64) a.page, (Value.int .i64) a.kind, Value.bool a.user] 29 * (rrow (.slice A l.length c) l * (blk X1 #[(Value.int .i64) 0, (Value.int .i64) 0, (Value.int .i64) 0] 49 * (blk V #[(Value.int .i64) an.fin, (Value.int .i64) an.frame, (Value.int .i64) an.rights] 49 * R))))) := h5.eq (by unfold coreIn; ac_rfl)
          unfold coreBlk at h6
          have n1 := h6.ne
          have n2 := n1.symm
          obtain ⟨a0, a1, a2⟩ := h6.right.cells3
          have al := h6.right.lt
          have f1 := h6.free 1
          have f2 := h6.free 2
          have f3 := h6.free 3
          have f4 := h6.free 4
          obtain ⟨q1, q2, q3, q4, q5, q6, q7, q8, ql⟩ := core_cells h5
          go_region
          all_goals
            go_wp2_with fail
            go_meet
            case rel => first | exact ⟨(core_begin h5 a).drew, ((((x5.set _ _).set _ _).set _ _).set _ _).drew⟩ | exact ⟨core_begin h5.drew a, (((x5.drew.set _ _).set _ _).set _ _).set _ _⟩
        case rest =>
          clear h5 x5
          obtain ⟨h6, x6⟩ := hcut
          go_wp2_with fail
          refine (HAG.out _ _ (coreAt_shut h6)).mono ?_; rintro e w7 ⟨rfl, h7, x7⟩
          have hA := h7.p2
          have xA := x6.trans x7
          obtain ⟨r0, r1, r2⟩ := hA.cells3
          obtain ⟨g0, g1, g2⟩ := hA.frees3
          have rl := hA.lt
          clear h6 x6 h7 x7
          go_wp2_with fail
          refine ret_via (fun wz => Has wz (blk X1 #[(Value.int .i64) 0, (Value.int .i64) 0, (Value.int .i64) 0] 49 * (coreAt q l (k.begin root a) * (blk X0 #[(Value.int .i64) a.page, (Value.int .i64) a.kind, Value.bool a.user] 29 * (blk V #[(Value.int .i64) an.fin, (Value.int .i64) an.frame, (Value.int .i64) an.rights] 49 * R)))) ∧ Ext W wz) ⟨hA.set3 _ _ _, by (repeat (first | with_reducible assumption | with_reducible exact Ext.refl _ | with_reducible refine Ext.set ?_ _ _ | with_reducible refine Ext.alloc ?_ _ | with_reducible refine Ext.drew ?_ | with_reducible refine Ext.drewN ?_ _ | assumption | exact Ext.refl _ | refine Ext.alloc ?_ _ | refine Ext.set ?_ _ _ | refine Ext.drew ?_ | refine Ext.drewN ?_ _ | refine Ext.below ?_ (by assumption) | refine Ext.trans ?_ (by assumption)))⟩ ?_
          rintro wz ⟨hz, xz⟩
          exact bodyPost_ret (results_ctt Try.results46 rfl rfl rfl (load_answer hz)) rfl ⟨rfl, hz.right.p2.right.p2.right, xz⟩
theorem beginR (q : Nat) (l : List Ln) (root : Int) (k : Ck) (a : Ac) (hl : Tl.Ok l) (hp : i64 a.page) (R : HProp) (W : World) (h : Has W (coreAt q l k * R)) :
    Calls Try.prog 46 #[.pointer (some ⟨q, 0, none⟩), (Value.int .i64) root, .agg #[(Value.int .i64) a.page, (Value.int .i64) a.kind, Value.bool a.user]] W
      (Res (.tuple #[.agg #[(Value.int .i64) (coreB l root k a).an.fin, (Value.int .i64) (coreB l root k a).an.frame, (Value.int .i64) (coreB l root k a).an.rights], Value.bool (coreB l root k a).fin, (Value.int .i64) (coreB l root k a).code]) (coreAt q l (coreB l root k a).c * R) W) := by
  by_cases ha : checkAccess a = 0
  · cases hon : k.on with
    | true =>
      have e : coreB l root k a = ⟨An.zero, false, 8, k⟩ := by unfold coreB; rw [if_neg (by rw [ha]; simp), if_pos hon]
      rw [e]
      exact beginR_busy q l root k a ha hon R W h
    | false =>
      have e : coreB l root k a = match hitA l a with | some r => ⟨r, true, 0, k⟩ | none => ⟨An.zero, false, 0, k.begin root a⟩ := by unfold coreB; rw [if_neg (by rw [ha]; simp), if_neg (by rw [hon]; simp)]; rfl
      rcases Tl.idx_find l a.page with ⟨hf, hi⟩ | ⟨j, hj, hi, hf, _⟩
      · have e2 : hitA l a = none := by unfold hitA; rw [hf]
        rw [e2] at e
        rw [e]
        exact beginR_none q l root k a hl ha hp hon hi R W h
      · cases hu : useL l[j] a with
        | true =>
          have e2 : hitA l a = some (answer l[j].m a) := by
            unfold hitA; rw [hf]
            refine if_pos ?_
            unfold useL at hu
            simpa using hu
          rw [e2] at e
          exact beginR_kept q l root k a hl ha hp hon j hj hi _ (Lib.hid rfl) _ (Lib.hid rfl) true (Lib.hid hu.symm) _ (Lib.hid e) R W h
        | false =>
          have e2 : hitA l a = none := by
            unfold hitA; rw [hf]
            refine if_neg fun h => ?_
            have : useL l[j] a = true := by unfold useL; simpa using h
            rw [this] at hu; cases hu
          rw [e2] at e
          exact beginR_kept q l root k a hl ha hp hon j hj hi _ (Lib.hid rfl) _ (Lib.hid rfl) false (Lib.hid hu.symm) _ (Lib.hid e) R W h
  · have e : coreB l root k a = ⟨An.zero, false, checkAccess a, k⟩ := by unfold coreB; rw [if_pos ha]
    rw [e]
    exact beginR_bad q l root k a ha R W h
end Go.Proofs.Ytndhgomikpokpaa
