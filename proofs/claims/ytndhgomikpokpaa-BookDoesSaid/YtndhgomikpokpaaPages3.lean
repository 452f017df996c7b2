/- Contracts of the document's book: Protect. -/
import Derived.Test.YtndhgomikpokpaaPages2
namespace Go.Proofs.Ytndhgomikpokpaa
open Go.RowKit
set_option maxRecDepth 100000

theorem Bk.prot_add {l : List Mp} (h : Bk.Ok l) {p r : Int} (hi : Bk.pos l p < l.length) (ho : over l[Bk.pos l p] p = true) (h0 : 0 ≤ r) (h7 : r ≤ 7) : Bk.add (Bk.del l p) { l[Bk.pos l p] with rights := r } = Bk.prot l p r := by
  have e : l.dropWhile (Bk.before p) = l[Bk.pos l p] :: l.drop (Bk.pos l p + 1) := by rw [Bk.drop_pos, List.drop_eq_getElem_cons hi]
  obtain ⟨h1, h2⟩ := Bk.ins_del h e ho h0 h7
  unfold Bk.add
  rw [if_pos ⟨mapOk_check (Bk.Ok.rights (h.chk _ (List.getElem_mem hi)) h0 h7), h1⟩]
  exact h2
set_option maxHeartbeats 4000000 in
theorem protectP (q : Nat) (l : List Mp) (k r : Int) (R : HProp) (w : World) (hl : Bk.Ok l) (hk : i64 k) (h : Has w (pagesAt q l * R)) :
    Calls Try.prog 41 #[.pointer (some ⟨q, 0, none⟩), .int .i64 k, .int .i64 r] w (Res (.tuple #[mpOf (Bk.protR l k r), (Value.int .i64) (Bk.protC l k r)]) (pagesAt q (Bk.protL l k r) * R) w) := by
  have H1 := h.new #[(Value.int .i64) 0, (Value.int .i64) 0, (Value.int .i64) 0, (Value.int .i64) 0] 27
  have x1 := (Ext.refl w).alloc (.cells #[(Value.int .i64) 0, (Value.int .i64) 0, (Value.int .i64) 0, (Value.int .i64) 0] 27)
  unfold Bk.protR Bk.protC Bk.protL
  cases hb : Bk.protB k r with
  | false =>
    change Calls _ _ _ w (Res (.tuple #[mpOf none, (Value.int .i64) 1]) (pagesAt q l * R) w)
    have hr : ¬ (0 ≤ k ∧ k < 4096 ∧ 0 ≤ r ∧ r ≤ 7) := fun e => by rw [Bk.protB_iff.2 e] at hb; cases hb
    clear hb
    by_cases a1 : k < 0
    · have e1 : decide (k < 0) = true := decide_eq_true a1
      clear h
      go_enter Try.func41, Try.ntmps41
      go_wp2_with fail
      refine ret_via (fun wz => Has wz (blk w.heap.size #[(Value.int .i64) 0, (Value.int .i64) 0, (Value.int .i64) 0, (Value.int .i64) 0] 27 * (pagesAt q l * R)) ∧ Ext w wz) ⟨H1, by (repeat (first | with_reducible assumption | with_reducible exact Ext.refl _ | with_reducible refine Ext.set ?_ _ _ | with_reducible refine Ext.alloc ?_ _ | with_reducible refine Ext.drew ?_ | with_reducible refine Ext.drewN ?_ _ | assumption | exact Ext.refl _ | refine Ext.alloc ?_ _ | refine Ext.set ?_ _ _ | refine Ext.drew ?_ | refine Ext.drewN ?_ _ | refine Ext.below ?_ (by assumption) | refine Ext.trans ?_ (by assumption)))⟩ ?_
      rintro wz ⟨hz, xz⟩
      exact bodyPost_ret (results_ct Try.results41 rfl rfl (load_map hz)) rfl ⟨rfl, hz.right, xz⟩
    have e1 : decide (k < 0) = false := decide_eq_false a1
    by_cases a2 : 4096 ≤ k
    · have e2 : decide (4096 ≤ k) = true := decide_eq_true a2
      clear h
      go_enter Try.func41, Try.ntmps41
      go_wp2_with fail
      refine ret_via (fun wz => Has wz (blk w.heap.size #[(Value.int .i64) 0, (Value.int .i64) 0, (Value.int .i64) 0, (Value.int .i64) 0] 27 * (pagesAt q l * R)) ∧ Ext w wz) ⟨H1, by (repeat (first | with_reducible assumption | with_reducible exact Ext.refl _ | with_reducible refine Ext.set ?_ _ _ | with_reducible refine Ext.alloc ?_ _ | with_reducible refine Ext.drew ?_ | with_reducible refine Ext.drewN ?_ _ | assumption | exact Ext.refl _ | refine Ext.alloc ?_ _ | refine Ext.set ?_ _ _ | refine Ext.drew ?_ | refine Ext.drewN ?_ _ | refine Ext.below ?_ (by assumption) | refine Ext.trans ?_ (by assumption)))⟩ ?_
      rintro wz ⟨hz, xz⟩
      exact bodyPost_ret (results_ct Try.results41 rfl rfl (load_map hz)) rfl ⟨rfl, hz.right, xz⟩
    have e2 : decide (4096 ≤ k) = false := decide_eq_false a2
    by_cases a3 : r < 0
    · have e3 : decide (r < 0) = true := decide_eq_true a3
      clear h
      go_enter Try.func41, Try.ntmps41
      go_wp2_with fail
      refine ret_via (fun wz => Has wz (blk w.heap.size #[(Value.int .i64) 0, (Value.int .i64) 0, (Value.int .i64) 0, (Value.int .i64) 0] 27 * (pagesAt q l * R)) ∧ Ext w wz) ⟨H1, by (repeat (first | with_reducible assumption | with_reducible exact Ext.refl _ | with_reducible refine Ext.set ?_ _ _ | with_reducible refine Ext.alloc ?_ _ | with_reducible refine Ext.drew ?_ | with_reducible refine Ext.drewN ?_ _ | assumption | exact Ext.refl _ | refine Ext.alloc ?_ _ | refine Ext.set ?_ _ _ | refine Ext.drew ?_ | refine Ext.drewN ?_ _ | refine Ext.below ?_ (by assumption) | refine Ext.trans ?_ (by assumption)))⟩ ?_
      rintro wz ⟨hz, xz⟩
      exact bodyPost_ret (results_ct Try.results41 rfl rfl (load_map hz)) rfl ⟨rfl, hz.right, xz⟩
    have e3 : decide (r < 0) = false := decide_eq_false a3
    have e4 : decide (7 < r) = true := decide_eq_true (by omega)
    clear h
    go_enter Try.func41, Try.ntmps41
    go_wp2_with fail
    refine ret_via (fun wz => Has wz (blk w.heap.size #[(Value.int .i64) 0, (Value.int .i64) 0, (Value.int .i64) 0, (Value.int .i64) 0] 27 * (pagesAt q l * R)) ∧ Ext w wz) ⟨H1, by (repeat (first | with_reducible assumption | with_reducible exact Ext.refl _ | with_reducible refine Ext.set ?_ _ _ | with_reducible refine Ext.alloc ?_ _ | with_reducible refine Ext.drew ?_ | with_reducible refine Ext.drewN ?_ _ | assumption | exact Ext.refl _ | refine Ext.alloc ?_ _ | refine Ext.set ?_ _ _ | refine Ext.drew ?_ | refine Ext.drewN ?_ _ | refine Ext.below ?_ (by assumption) | refine Ext.trans ?_ (by assumption)))⟩ ?_
    rintro wz ⟨hz, xz⟩
    exact bodyPost_ret (results_ct Try.results41 rfl rfl (load_map hz)) rfl ⟨rfl, hz.right, xz⟩
  | true =>
    obtain ⟨k0, k4, r0, r7⟩ := Bk.protB_iff.1 hb
    have e1 : decide (k < 0) = false := decide_eq_false (by omega)
    have e2 : decide (4096 ≤ k) = false := decide_eq_false (by omega)
    have e3 : decide (r < 0) = false := decide_eq_false (by omega)
    have e4 : decide (7 < r) = false := decide_eq_false (by omega)
    have hh : hasB k = true := by unfold hasB; simp; omega
    rw [if_pos rfl, if_pos rfl, if_pos rfl]
    have hD := dropP q l k _ _ hl hk H1.p2
    unfold Bk.dropR Bk.dropC Bk.dropL at hD
    rw [hh, if_pos rfl, if_pos rfl, if_pos rfl] at hD
    rcases Bk.place hl k with ⟨hf, hdl, hp⟩ | ⟨hi, ho, hf, _, _, hdl, hp⟩
    · rw [hf, hdl] at hD
      rw [hf, hp r]
      change Calls _ _ _ w (Res (.tuple #[mpOf none, (Value.int .i64) 5]) (pagesAt q l * R) w)
      change Calls _ _ _ _ (Res (.tuple #[.agg #[(Value.int .i64) 0, (Value.int .i64) 0, (Value.int .i64) 0, (Value.int .i64) 0], (Value.int .i64) 5]) _ _) at hD
      clear h hf hl hp hb hh hdl
      go_enter Try.func41, Try.ntmps41
      go_wp2_with (refine hD.mono ?_; rintro e w2 ⟨rfl, h2, x2⟩; obtain ⟨d0, d1, d2, d3⟩ := h2.right.cells4; obtain ⟨f0, f1, f2, f3⟩ := h2.right.frees4; have fl := h2.right.lt)
      refine ret_via (fun wz => Has wz (blk w.heap.size #[(Value.int .i64) 0, (Value.int .i64) 0, (Value.int .i64) 0, (Value.int .i64) 0] 27 * (pagesAt q l * R)) ∧ Ext w wz) ⟨(h2.p2.set4 _ _ _ _).alloc (.cells #[(Value.int .i64) 0, (Value.int .i64) 0, (Value.int .i64) 0, (Value.int .i64) 0] 27), by (repeat (first | with_reducible assumption | with_reducible exact Ext.refl _ | with_reducible refine Ext.set ?_ _ _ | with_reducible refine Ext.alloc ?_ _ | with_reducible refine Ext.drew ?_ | with_reducible refine Ext.drewN ?_ _ | assumption | exact Ext.refl _ | refine Ext.alloc ?_ _ | refine Ext.set ?_ _ _ | refine Ext.drew ?_ | refine Ext.drewN ?_ _ | refine Ext.below ?_ (by assumption) | refine Ext.trans ?_ (by assumption)))⟩ ?_
      rintro wz ⟨hz, xz⟩
      exact bodyPost_ret (results_ct Try.results41 rfl rfl (load_map hz)) rfl ⟨rfl, hz.right, xz⟩
    · have hadd := Lib.hid (Bk.prot_add hl hi ho r0 r7)
      have hdo := hl.del k
      have hmi := (hl.chk _ (List.getElem_mem hi)).i64
      rw [hf] at hD
      rw [hf]
      change Calls _ _ _ w (Res (.tuple #[mpOf (some { l[Bk.pos l k] with rights := r }), (Value.int .i64) 0]) (pagesAt q (Bk.prot l k r) * R) w)
      generalize hxo : l[Bk.pos l k] = x at *
      clear hxo
      rw [← hadd.out]
      have hA := Lib.hid (fun W R' h => addP q (Bk.del l k) { x with rights := r } R' W hdo hmi h)
      clear h hf hl hp hb hh hdl hadd ho hdo
      generalize Bk.addC (Bk.del l k) { x with rights := r } = cc at *
      generalize Bk.add (Bk.del l k) { x with rights := r } = l2 at *
      generalize Bk.del l k = l1 at *
      change Calls _ _ _ _ (Res (.tuple #[.agg #[(Value.int .i64) x.page, (Value.int .i64) x.size, (Value.int .i64) x.frame, (Value.int .i64) x.rights], (Value.int .i64) 0]) _ _) at hD
      go_enter Try.func41, Try.ntmps41
      go_wp2_with (first | (go_at_call 40; refine hD.mono ?_; rintro e w2 ⟨rfl, h2, x2⟩) | (fail))
      have h3 := h2.new #[(Value.int .i64) x.page, (Value.int .i64) x.size, (Value.int .i64) x.frame, (Value.int .i64) r] 27
      have h4 : Has _ (pagesAt q l1 * (blk w2.heap.size #[(Value.int .i64) x.page, (Value.int .i64) x.size, (Value.int .i64) x.frame, (Value.int .i64) r] 27 * (blk w.heap.size #[(Value.int .i64) 0, (Value.int .i64) 0, (Value.int .i64) 0, (Value.int .i64) 0] 27 * R))) := h3.p2
      have x4 := (x1.trans x2).alloc (.cells #[(Value.int .i64) x.page, (Value.int .i64) x.size, (Value.int .i64) x.frame, (Value.int .i64) r] 27)
      go_wp2_with (refine (hA.out _ _ h4).mono ?_; rintro e w5 ⟨rfl, h5, x5⟩; have h6 : Has w5 (blk w.heap.size #[(Value.int .i64) 0, (Value.int .i64) 0, (Value.int .i64) 0, (Value.int .i64) 0] 27 * (blk w2.heap.size #[(Value.int .i64) x.page, (Value.int .i64) x.size, (Value.int .i64) x.frame, (Value.int .i64) r] 27 * (pagesAt q l2 * R))) := h5.eq (by (simp only [star_assoc, star_left_comm, star_comm])); obtain ⟨d0, d1, d2, d3⟩ := h6.cells4; obtain ⟨f0, f1, f2, f3⟩ := h6.frees4; have fl := h6.lt; obtain ⟨m0, m1, m2, m3⟩ := h6.right.cells4; have ml := h6.right.lt; have x6 := x4.trans x5)
      refine ret_via (fun wz => Has wz (blk w.heap.size #[(Value.int .i64) x.page, (Value.int .i64) x.size, (Value.int .i64) x.frame, (Value.int .i64) r] 27 * (blk w2.heap.size #[(Value.int .i64) x.page, (Value.int .i64) x.size, (Value.int .i64) x.frame, (Value.int .i64) r] 27 * (pagesAt q l2 * R))) ∧ Ext w wz) ⟨h6.set4 _ _ _ _, by (repeat (first | with_reducible assumption | with_reducible exact Ext.refl _ | with_reducible refine Ext.set ?_ _ _ | with_reducible refine Ext.alloc ?_ _ | with_reducible refine Ext.drew ?_ | with_reducible refine Ext.drewN ?_ _ | assumption | exact Ext.refl _ | refine Ext.alloc ?_ _ | refine Ext.set ?_ _ _ | refine Ext.drew ?_ | refine Ext.drewN ?_ _ | refine Ext.below ?_ (by assumption) | refine Ext.trans ?_ (by assumption)))⟩ ?_
      rintro wz ⟨hz, xz⟩
      exact bodyPost_ret (results_ct Try.results41 rfl rfl (load_map hz)) rfl ⟨rfl, hz.right.right, xz⟩
end Go.Proofs.Ytndhgomikpokpaa
