/- Contract of finish: a walk to its end. -/
import Derived.Test.YtndhgomikpokpaaWkr4
import Derived.Test.YtndhgomikpokpaaEq2
namespace Go.Proofs.Ytndhgomikpokpaa
open Go.RowKit
set_option maxRecDepth 100000

def Fin (y : Wy) (a : Ac) (b f : Nat) (root : Int) (s : Ms) (R : HProp) (w : World) (e : Ending) (w' : World) : Prop :=
  ∃ (r : Rs) (n : Int) (c' : Ck) (s' : Ms), e = .returned (.tuple #[RsV r, (Value.int .i64) n, (Value.int .i64) y.code]) ∧ Has w' (walkerAt b root c' * (framesAt f s' * R)) ∧ Ext w w' ∧ (y.code ≠ 0 → r = Rs.zero) ∧ (y.code = 0 → r = endR y a ∧ n = cntW y a ∧ c'.on = false ∧ c'.Ok ∧ s' = endS s y a)
set_option maxHeartbeats 4000000 in
theorem finishW (b f : Nat) (root : Int) (a : Ac) (s : Ms) (hs : s.Ok) (c : Ck) (hw : OnWay s root a 0 c) (R : HProp) (w : World) (h : Has w (walkerAt b root c * (framesAt f s * R))) :
    Calls Try.prog 57 #[.pointer (some ⟨b, 0, none⟩), .pointer (some ⟨f, 0, none⟩)] w (Fin (way s root a.page) a b f root s R w) := by
  have h1 : Has _ (walkerAt b root c * (framesAt f s * (blk w.heap.size #[Value.bool false, (Value.int .i64) 0, (Value.int .i64) 0, (Value.int .i64) 0, (Value.int .i64) 0, (Value.int .i64) 0, (Value.int .i64) 0, (Value.int .i64) 0, Value.bool false] 53 * R))) := (h.new #[Value.bool false, (Value.int .i64) 0, (Value.int .i64) 0, (Value.int .i64) 0, (Value.int .i64) 0, (Value.int .i64) 0, (Value.int .i64) 0, (Value.int .i64) 0, Value.bool false] 53).eq (by ac_rfl)
  have x1 := (Ext.refl w).alloc (.cells #[Value.bool false, (Value.int .i64) 0, (Value.int .i64) 0, (Value.int .i64) 0, (Value.int .i64) 0, (Value.int .i64) 0, (Value.int .i64) 0, (Value.int .i64) 0, Value.bool false] 53)
  have hw' := Lib.hid hw
  clear h hw
  go_enter Try.func57, Try.ntmps57
  go_wp2_with fail
  go_loopw [7] (fun t wr => ∃ (i : Nat) (c : Ck), 1 ≤ i ∧ t = (Value.int .i64) i ∧ Hid (OnWay s root a (i - 1) c) ∧ Has wr (walkerAt b root c * (framesAt f s * (blk w.heap.size #[Value.bool false, (Value.int .i64) 0, (Value.int .i64) 0, (Value.int .i64) 0, (Value.int .i64) 0, (Value.int .i64) 0, (Value.int .i64) 0, (Value.int .i64) 0, Value.bool false] 53 * R))) ∧ Ext w wr) (fun t _ => 20 - (intOf t).toNat)
  case atStart => exact ⟨1, c, by omega, rfl, hw', h1, x1⟩
  case round =>
    clear h1 x1 hw'
    obtain ⟨i, c, hi1, rfl, HW, hr, hx⟩ := hrel
    have hi := HW.out.few
    have hlt : i < 20 := by omega
    have HS := Lib.hid (fun R w h => stepW b f root c s hs HW.out.ok R w h)
    have hst := HW.out.step
    generalize stepC s root c = p at *
    obtain ⟨c', s', r, code⟩ := p
    go_wp2_with fail
    refine (HS.out _ _ hr).mono ?_; rintro e2 w2 ⟨rfl, h2, x2⟩
    go_upto_region 5 with fail
    have h3 := h2.new #[Value.bool r.fin, (Value.int .i64) r.an.fin, (Value.int .i64) r.an.frame, (Value.int .i64) r.an.rights, (Value.int .i64) r.ln.m.page, (Value.int .i64) r.ln.m.size, (Value.int .i64) r.ln.m.frame, (Value.int .i64) r.ln.m.rights, Value.bool r.ln.dirty] 53
    have x3 := (hx.trans x2).alloc (.cells #[Value.bool r.fin, (Value.int .i64) r.an.fin, (Value.int .i64) r.an.frame, (Value.int .i64) r.an.rights, (Value.int .i64) r.ln.m.page, (Value.int .i64) r.ln.m.size, (Value.int .i64) r.ln.m.frame, (Value.int .i64) r.ln.m.rights, Value.bool r.ln.dirty] 53)
    generalize w2.alloc (.cells #[Value.bool r.fin, (Value.int .i64) r.an.fin, (Value.int .i64) r.an.frame, (Value.int .i64) r.an.rights, (Value.int .i64) r.ln.m.page, (Value.int .i64) r.ln.m.size, (Value.int .i64) r.ln.m.frame, (Value.int .i64) r.ln.m.rights, Value.bool r.ln.dirty] 53) = w3 at *
    generalize w2.heap.size = X2 at *
    clear hr hx h2 x2 HS
    have h4 : Has w3 (blk w.heap.size #[Value.bool false, (Value.int .i64) 0, (Value.int .i64) 0, (Value.int .i64) 0, (Value.int .i64) 0, (Value.int .i64) 0, (Value.int .i64) 0, (Value.int .i64) 0, Value.bool false] 53 * (blk X2 #[Value.bool r.fin, (Value.int .i64) r.an.fin, (Value.int .i64) r.an.frame, (Value.int .i64) r.an.rights, (Value.int .i64) r.ln.m.page, (Value.int .i64) r.ln.m.size, (Value.int .i64) r.ln.m.frame, (Value.int .i64) r.ln.m.rights, Value.bool r.ln.dirty] 53 * (walkerAt b root c' * (framesAt f s' * R)))) := h3.eq (by ac_rfl)
    obtain ⟨c0, c1, c2, c3, c4, c5, c6, c7, c8⟩ := h3.cells9
    have cl := h3.lt
    obtain ⟨r0, r1, r2, r3, r4, r5, r6, r7, r8⟩ := h4.cells9
    obtain ⟨g0, g1, g2, g3, g4, g5, g6, g7, g8⟩ := h4.frees9
    have rl := h4.lt
    have n1 := h4.ne
    have n2 := n1.symm
    cases hst with
    | bad hc hy hrr hss _ =>
      dsimp only at hc hy hrr hss
      have hn : (code != 0) = true := by simpa using hc
      have HC := Lib.hid (show (way s root a.page).code = code ∧ code ≠ 0 ∧ r = Rs.zero from ⟨hy, hc, hrr⟩)
      clear hc hy hrr hss
      go_wp2_with fail
      refine ret_via (fun wz => Has wz (blk w.heap.size #[Value.bool r.fin, (Value.int .i64) r.an.fin, (Value.int .i64) r.an.frame, (Value.int .i64) r.an.rights, (Value.int .i64) r.ln.m.page, (Value.int .i64) r.ln.m.size, (Value.int .i64) r.ln.m.frame, (Value.int .i64) r.ln.m.rights, Value.bool r.ln.dirty] 53 * (blk X2 #[Value.bool r.fin, (Value.int .i64) r.an.fin, (Value.int .i64) r.an.frame, (Value.int .i64) r.an.rights, (Value.int .i64) r.ln.m.page, (Value.int .i64) r.ln.m.size, (Value.int .i64) r.ln.m.frame, (Value.int .i64) r.ln.m.rights, Value.bool r.ln.dirty] 53 * (walkerAt b root c' * (framesAt f s' * R)))) ∧ Ext w wz) ⟨h4.set9 _ _ _ _ _ _ _ _ _, by (repeat (first | with_reducible assumption | with_reducible exact Ext.refl _ | with_reducible refine Ext.set ?_ _ _ | with_reducible refine Ext.alloc ?_ _ | with_reducible refine Ext.drew ?_ | with_reducible refine Ext.drewN ?_ _ | assumption | exact Ext.refl _ | refine Ext.alloc ?_ _ | refine Ext.set ?_ _ _ | refine Ext.drew ?_ | refine Ext.drewN ?_ _ | refine Ext.below ?_ (by assumption) | refine Ext.trans ?_ (by assumption)))⟩ ?_
      rintro wz ⟨hz, xz⟩
      exact bodyPost_ret (results_ctt Try.results57 rfl rfl rfl (load_result hz)) rfl ⟨r, _, c', s', (by rw [HC.out.1]; rfl), hz.right.right, xz, fun _ => HC.out.2.2, fun h => absurd (HC.out.1.symm.trans h) HC.out.2.1⟩
    | on hc hrr hss hwn =>
      dsimp only at hc hrr hss hwn
      subst hrr hss hc
      go_wp2_with fail
      go_roundw
      case rel => exact ⟨i + 1, c', by omega, by go_num, Lib.hid (by rw [show i + 1 - 1 = i - 1 + 1 by omega]; exact hwn), h3.right, x3⟩
      case measure => simp [intOf]; omega
    | done hc hy hrr hss hcnt hoff hok =>
      dsimp only at hc hy hrr hss hcnt hoff hok
      have hfin : r.fin = true := by rw [hrr]; unfold endR; split; · rfl
                                     split <;> rfl
      subst hc
      have HC := Lib.hid (show (way s root a.page).code = 0 ∧ r = endR (way s root a.page) a ∧ ((i - 1 + 1 : Nat) : Int) = cntW (way s root a.page) a ∧ c'.on = false ∧ c'.Ok ∧ s' = endS s (way s root a.page) a from ⟨hy, hrr, hcnt, hoff, hok, hss⟩)
      clear hy hrr hss hcnt hoff hok
      obtain ⟨fin, an, ln⟩ := r
      dsimp only at *
      subst hfin
      go_wp2_with fail
      refine ret_via (fun wz => Has wz (blk w.heap.size #[Value.bool true, (Value.int .i64) an.fin, (Value.int .i64) an.frame, (Value.int .i64) an.rights, (Value.int .i64) ln.m.page, (Value.int .i64) ln.m.size, (Value.int .i64) ln.m.frame, (Value.int .i64) ln.m.rights, Value.bool ln.dirty] 53 * (blk X2 #[Value.bool true, (Value.int .i64) an.fin, (Value.int .i64) an.frame, (Value.int .i64) an.rights, (Value.int .i64) ln.m.page, (Value.int .i64) ln.m.size, (Value.int .i64) ln.m.frame, (Value.int .i64) ln.m.rights, Value.bool ln.dirty] 53 * (walkerAt b root c' * (framesAt f s' * R)))) ∧ Ext w wz) ⟨h4.set9 _ _ _ _ _ _ _ _ _, by (repeat (first | with_reducible assumption | with_reducible exact Ext.refl _ | with_reducible refine Ext.set ?_ _ _ | with_reducible refine Ext.alloc ?_ _ | with_reducible refine Ext.drew ?_ | with_reducible refine Ext.drewN ?_ _ | assumption | exact Ext.refl _ | refine Ext.alloc ?_ _ | refine Ext.set ?_ _ _ | refine Ext.drew ?_ | refine Ext.drewN ?_ _ | refine Ext.below ?_ (by assumption) | refine Ext.trans ?_ (by assumption)))⟩ ?_
      rintro wz ⟨hz, xz⟩
      exact bodyPost_ret (results_ctt Try.results57 rfl rfl rfl (load_result hz)) rfl ⟨⟨true, an, ln⟩, _, c', s', (by rw [HC.out.1]; rfl), hz.right.right, xz, fun h => absurd HC.out.1 h, fun _ => ⟨HC.out.2.1, by rw [← HC.out.2.2.1]; omega, HC.out.2.2.2⟩⟩
end Go.Proofs.Ytndhgomikpokpaa
