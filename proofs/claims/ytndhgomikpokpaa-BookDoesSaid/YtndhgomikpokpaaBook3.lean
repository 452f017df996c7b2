/- Contracts of package book: Protect, Answer. -/
import Derived.Test.YtndhgomikpokpaaBook2
namespace Go.Proofs.Ytndhgomikpokpaa
open Go.RowKit
set_option maxRecDepth 100000

set_option maxHeartbeats 2000000 in
theorem protectB (p : Nat) (l : List Mp) (k r : Int) (R : HProp) (w : World) (hl : Bk.Ok l) (hk : i64 k) (h : Has w (bookAt p l * R)) :
    Calls Try.prog 32 #[.pointer (some ⟨p, 0, none⟩), .int .i64 k, .int .i64 r] w (Res (.tuple #[mpOf (Bk.protR l k r), (Value.int .i64) (Bk.protC l k r)]) (bookAt p (Bk.protL l k r) * R) w) := by
  have H1 := h.new #[(Value.int .i64) 0, (Value.int .i64) 0, (Value.int .i64) 0, (Value.int .i64) 0] 27
  have x1 := (Ext.refl w).alloc (.cells #[(Value.int .i64) 0, (Value.int .i64) 0, (Value.int .i64) 0, (Value.int .i64) 0] 27)
  have HH := has_any k
  unfold Bk.protR Bk.protC Bk.protL
  cases hb : Bk.protB k r with
  | false =>
    change Calls _ _ _ w (Res (.tuple #[mpOf none, (Value.int .i64) 1]) (bookAt p l * R) w)
    cases hh : hasB k with
    | false =>
      rw [hh] at HH
      clear hb hh
      clear hk hl h
      go_enter Try.func32, Try.ntmps32
      go_wp2_with (refine (HH _).mono ?_; rintro e w2 ⟨rfl, hw⟩; have H3 := hw.symm ▸ H1; have x3 := hw.symm ▸ x1; clear hw; obtain ⟨d0, d1, d2, d3⟩ := H3.cells4; obtain ⟨f0, f1, f2, f3⟩ := H3.frees4; have fl := H3.lt)
      refine ret_via (fun wz => Has wz (blk w.heap.size #[(Value.int .i64) 0, (Value.int .i64) 0, (Value.int .i64) 0, (Value.int .i64) 0] 27 * (bookAt p l * R)) ∧ Ext w wz) ⟨H3.set4 _ _ _ _, by (repeat (first | with_reducible assumption | with_reducible exact Ext.refl _ | with_reducible refine Ext.set ?_ _ _ | with_reducible refine Ext.alloc ?_ _ | with_reducible refine Ext.drew ?_ | with_reducible refine Ext.drewN ?_ _ | assumption | exact Ext.refl _ | refine Ext.alloc ?_ _ | refine Ext.set ?_ _ _ | refine Ext.drew ?_ | refine Ext.drewN ?_ _ | refine Ext.below ?_ (by assumption) | refine Ext.trans ?_ (by assumption)))⟩ ?_
      rintro wz ⟨hz, xz⟩
      exact bodyPost_ret (results_ct Try.results32 rfl rfl (load_map hz)) rfl ⟨rfl, hz.right, xz⟩
    | true =>
      rw [hh] at HH
      have hr : r < 0 ∨ 7 < r := by
        unfold Bk.protB at hb
        rw [hh] at hb
        rcases Int.lt_or_le r 0 with h0 | h0
        · exact .inl h0
        · rw [decide_eq_true h0] at hb
          simp at hb
          exact .inr hb
      clear hb hh
      rcases hr with h0 | h7
      · have hd : decide (r < 0) = true := decide_eq_true h0
        clear hk hl h
        go_enter Try.func32, Try.ntmps32
        go_wp2_with (refine (HH _).mono ?_; rintro e w2 ⟨rfl, hw⟩; have H3 := hw.symm ▸ H1; have x3 := hw.symm ▸ x1; clear hw; obtain ⟨d0, d1, d2, d3⟩ := H3.cells4; obtain ⟨f0, f1, f2, f3⟩ := H3.frees4; have fl := H3.lt)
        refine ret_via (fun wz => Has wz (blk w.heap.size #[(Value.int .i64) 0, (Value.int .i64) 0, (Value.int .i64) 0, (Value.int .i64) 0] 27 * (bookAt p l * R)) ∧ Ext w wz) ⟨H3.set4 _ _ _ _, by (repeat (first | with_reducible assumption | with_reducible exact Ext.refl _ | with_reducible refine Ext.set ?_ _ _ | with_reducible refine Ext.alloc ?_ _ | with_reducible refine Ext.drew ?_ | with_reducible refine Ext.drewN ?_ _ | assumption | exact Ext.refl _ | refine Ext.alloc ?_ _ | refine Ext.set ?_ _ _ | refine Ext.drew ?_ | refine Ext.drewN ?_ _ | refine Ext.below ?_ (by assumption) | refine Ext.trans ?_ (by assumption)))⟩ ?_
        rintro wz ⟨hz, xz⟩
        exact bodyPost_ret (results_ct Try.results32 rfl rfl (load_map hz)) rfl ⟨rfl, hz.right, xz⟩
      · have hd : decide (r < 0) = false := decide_eq_false (by omega)
        have hd7 : decide (7 < r) = true := decide_eq_true h7
        clear hk hl h
        go_enter Try.func32, Try.ntmps32
        go_wp2_with (refine (HH _).mono ?_; rintro e w2 ⟨rfl, hw⟩; have H3 := hw.symm ▸ H1; have x3 := hw.symm ▸ x1; clear hw; obtain ⟨d0, d1, d2, d3⟩ := H3.cells4; obtain ⟨f0, f1, f2, f3⟩ := H3.frees4; have fl := H3.lt)
        refine ret_via (fun wz => Has wz (blk w.heap.size #[(Value.int .i64) 0, (Value.int .i64) 0, (Value.int .i64) 0, (Value.int .i64) 0] 27 * (bookAt p l * R)) ∧ Ext w wz) ⟨H3.set4 _ _ _ _, by (repeat (first | with_reducible assumption | with_reducible exact Ext.refl _ | with_reducible refine Ext.set ?_ _ _ | with_reducible refine Ext.alloc ?_ _ | with_reducible refine Ext.drew ?_ | with_reducible refine Ext.drewN ?_ _ | assumption | exact Ext.refl _ | refine Ext.alloc ?_ _ | refine Ext.set ?_ _ _ | refine Ext.drew ?_ | refine Ext.drewN ?_ _ | refine Ext.below ?_ (by assumption) | refine Ext.trans ?_ (by assumption)))⟩ ?_
        rintro wz ⟨hz, xz⟩
        exact bodyPost_ret (results_ct Try.results32 rfl rfl (load_map hz)) rfl ⟨rfl, hz.right, xz⟩
  | true =>
    have hbi := Bk.protB_iff.1 hb
    have hh : hasB k = true := by unfold hasB; simp; omega
    obtain ⟨h0, h4, hr0, hr7⟩ := hbi
    have hd : decide (r < 0) = false := decide_eq_false (by omega)
    have hd7 : decide (7 < r) = false := decide_eq_false (by omega)
    rw [hh] at HH
    rw [if_pos rfl, if_pos rfl, if_pos rfl]
    have hB := at_any l hl k hk p _ _ H1.p2
    rcases Bk.place hl k with ⟨hf, _, hp⟩ | ⟨hi, ho, hf, _, _, _, hp⟩
    · rw [hf] at hB
      rw [hf, hp r]
      change Calls _ _ _ w (Res (.tuple #[mpOf none, (Value.int .i64) 5]) (bookAt p l * R) w)
      clear h hf hl hp hb hh
      go_enter Try.func32, Try.ntmps32
      go_wp2_with (first | (go_at_call 90; refine (HH _).mono ?_; rintro e w2 ⟨rfl, rfl⟩) | (go_at_call 91; refine hB.mono ?_; rintro e w2 ⟨i, _, rfl, _, b2⟩; have H3 := H1.below b2; have x3 := x1.below b2; obtain ⟨d0, d1, d2, d3⟩ := H3.cells4; obtain ⟨f0, f1, f2, f3⟩ := H3.frees4; have fl := H3.lt))
      refine ret_via (fun wz => Has wz (blk w.heap.size #[(Value.int .i64) 0, (Value.int .i64) 0, (Value.int .i64) 0, (Value.int .i64) 0] 27 * (bookAt p l * R)) ∧ Ext w wz) ⟨H3.set4 _ _ _ _, by (repeat (first | with_reducible assumption | with_reducible exact Ext.refl _ | with_reducible refine Ext.set ?_ _ _ | with_reducible refine Ext.alloc ?_ _ | with_reducible refine Ext.drew ?_ | with_reducible refine Ext.drewN ?_ _ | assumption | exact Ext.refl _ | refine Ext.alloc ?_ _ | refine Ext.set ?_ _ _ | refine Ext.drew ?_ | refine Ext.drewN ?_ _ | refine Ext.below ?_ (by assumption) | refine Ext.trans ?_ (by assumption)))⟩ ?_
      rintro wz ⟨hz, xz⟩
      exact bodyPost_ret (results_ct Try.results32 rfl rfl (load_map hz)) rfl ⟨rfl, hz.right, xz⟩
    · rw [hf] at hB
      rw [hf, hp r]
      change Calls _ _ _ w (Res (.tuple #[mpOf (some { l[Bk.pos l k] with rights := r }), (Value.int .i64) 0]) _ w)
      have hq := fun i (e : 0 ≤ k → i = Bk.pos l k) => e h0
      generalize Bk.pos l k = q at *
      clear h hf hl ho hb hp hh
      go_enter Try.func32, Try.ntmps32
      go_upto_region 6 with (first | (go_at_call 90; refine (HH _).mono ?_; rintro e w2 ⟨rfl, rfl⟩) | (go_at_call 91; refine hB.mono ?_; rintro e w2 ⟨i, _, rfl, hiq, b2⟩; obtain rfl := hq _ hiq; clear hiq hq hB))
      have H3 := H1.below b2
      have x3 := x1.below b2
      clear H1 x1 b2
      obtain ⟨A, c, h3⟩ := bookAt_open H3.p2
      have k0 := h3.cell 0
      have kl := h3.lt
      obtain ⟨g, rfl, gb, g0, g1, g2, g3⟩ := mrow_at h3.right hi
      have hbig := mrow_small h3.right
      have h4 := mrow_rights i r h3.p2 hi
      have x4 := x3.set ⟨g, i * 4 + 3, none⟩ ((Value.int .i64) r)
      have gf : w2.frozen? ⟨g, i * 4 + 3, none⟩ = false := by
        obtain ⟨b, hb, _, _, hf⟩ := Has.rowGet (e := 27) (size := 4) h3.right (i := i * 4 + 3) (u := (mcells l)[i * 4 + 3]'(by rw [mcells_len]; omega)) (List.getElem?_eq_getElem _)
        injection hb with hb
        injection hb with hb
        subst hb
        exact hf
      have hrow := Has.rowAt (e := 27) (size := 4) h3.p2 (by omega)
      obtain ⟨g', cur, hg', _, _, _, _, hblk⟩ := hrow
      injection hg' with hg'
      injection hg' with hg'
      subst hg'
      have hpg := hblk.ne
      have hpg' := hpg.symm
      have hblk2 : Has w2 (blk g cur 27 * (blk w.heap.size #[(Value.int .i64) 0, (Value.int .i64) 0, (Value.int .i64) 0, (Value.int .i64) 0] 27 * (blk p #[.slice (some ⟨g, 0, none⟩) l.length c] 155 * R))) := hblk.eq (by (simp only [star_assoc, star_left_comm, star_comm]))
      have hrg := hblk2.ne
      have hrg' := hrg.symm
      obtain ⟨d0, d1, d2, d3⟩ := hblk2.right.cells4
      obtain ⟨f0, f1, f2, f3⟩ := hblk2.right.frees4
      have fl := hblk2.right.lt
      clear hblk hblk2
      have hz : (l.take i ++ { l[i] with rights := r } :: l.drop (i + 1)).length = l.length := by simp; omega
      have HZ := Lib.hid hz
      clear hz
      generalize hxo : l[i] = x at *
      have HX := Lib.hid hxo
      clear hxo
      have h5 : Has (w2.setCell ⟨g, i * 4 + 3, none⟩ ((Value.int .i64) r)) (blk w.heap.size #[(Value.int .i64) 0, (Value.int .i64) 0, (Value.int .i64) 0, (Value.int .i64) 0] 27 * (blk p #[.slice (some ⟨g, 0, none⟩) l.length c] 155 * (mrow (.slice (some ⟨g, 0, none⟩) l.length c) (l.take i ++ { x with rights := r } :: l.drop (i + 1)) * R))) := h4.eq (by (simp only [star_assoc, star_left_comm, star_comm]))
      clear h3 h4 H3
      go_wp2_with fail
      refine ret_via (fun wz => Has wz (blk w.heap.size #[(Value.int .i64) x.page, (Value.int .i64) x.size, (Value.int .i64) x.frame, (Value.int .i64) r] 27 * (blk p #[.slice (some ⟨g, 0, none⟩) l.length c] 155 * (mrow (.slice (some ⟨g, 0, none⟩) l.length c) (l.take i ++ { x with rights := r } :: l.drop (i + 1)) * R))) ∧ Ext w wz) ⟨h5.set4 _ _ _ _, by (repeat (first | with_reducible assumption | with_reducible exact Ext.refl _ | with_reducible refine Ext.set ?_ _ _ | with_reducible refine Ext.alloc ?_ _ | with_reducible refine Ext.drew ?_ | with_reducible refine Ext.drewN ?_ _ | assumption | exact Ext.refl _ | refine Ext.alloc ?_ _ | refine Ext.set ?_ _ _ | refine Ext.drew ?_ | refine Ext.drewN ?_ _ | refine Ext.below ?_ (by assumption) | refine Ext.trans ?_ (by assumption)))⟩ ?_
      rintro wz ⟨hz, xz⟩
      exact bodyPost_ret (results_ct Try.results32 rfl rfl (load_map hz)) rfl (by have e1 := HX.out; subst e1; exact ⟨rfl, bookAt_shut (A := some ⟨g, 0, none⟩) (c := c) (by rw [HZ.out]; exact hz.right), xz⟩)

/-- Answer. -/
theorem answerB (p : Nat) (l : List Mp) (a : Ac) (R : HProp) (w : World) (hl : Bk.Ok l) (ha : i64 a.page) (h : Has w (bookAt p l * R)) :
    Calls Try.prog 36 #[.pointer (some ⟨p, 0, none⟩), .agg #[(Value.int .i64) a.page, (Value.int .i64) a.kind, Value.bool a.user]] w (Pure (Bk.ans l a).val w) := by
  have h1 := (has_old w).new #[(Value.int .i64) a.page, (Value.int .i64) a.kind, Value.bool a.user] 29
  have H2 := h1.new #[(Value.int .i64) 0, (Value.int .i64) 0, (Value.int .i64) 0] 49
  have G2 := (h.new #[(Value.int .i64) a.page, (Value.int .i64) a.kind, Value.bool a.user] 29).new #[(Value.int .i64) 0, (Value.int .i64) 0, (Value.int .i64) 0] 49
  have x2 := ((Ext.refl w).alloc (.cells #[(Value.int .i64) a.page, (Value.int .i64) a.kind, Value.bool a.user] 29)).alloc (.cells #[(Value.int .i64) 0, (Value.int .i64) 0, (Value.int .i64) 0] 49)
  simp only [World.size_alloc] at H2 G2
  have G3 : Has _ (bookAt p l * (blk (w.heap.size + 1) #[(Value.int .i64) 0, (Value.int .i64) 0, (Value.int .i64) 0] 49 * (blk w.heap.size #[(Value.int .i64) a.page, (Value.int .i64) a.kind, Value.bool a.user] 29 * R))) := G2.eq (by (simp only [star_assoc, star_left_comm, star_comm]))
  have hF := findB p l a.page _ _ hl ha G3
  have c0 := G2.right.cell 0
  cases hf : Bk.find l a.page with
  | none =>
    have hy := Lib.hid (show Bk.ans l a = ⟨1, 0, 0⟩ by unfold Bk.ans; rw [hf])
    rw [hf] at hF
    change Calls _ _ _ _ (Pure (.tuple #[.agg #[(Value.int .i64) 0, (Value.int .i64) 0, (Value.int .i64) 0, (Value.int .i64) 0], Value.bool false]) _) at hF
    clear h h1 G3 G2 hf hl
    go_enter Try.func36, Try.ntmps36
    go_wp2_with (refine hF.mono ?_; rintro e w3 ⟨rfl, b3⟩; have H3 := H2.below b3; have x3 := x2.below b3; obtain ⟨d0, d1, d2⟩ := H3.cells3; obtain ⟨f0, f1, f2⟩ := H3.frees3; have fl := H3.lt)
    refine ret_via (fun wz => Has wz (blk (w.heap.size + 1) #[(Value.int .i64) 1, (Value.int .i64) 0, (Value.int .i64) 0] 49 * (blk w.heap.size #[(Value.int .i64) a.page, (Value.int .i64) a.kind, Value.bool a.user] 29 * old w w.heap.size)) ∧ Ext w wz) ⟨(((H3.set 0 ((Value.int .i64) 1)).set 1 ((Value.int .i64) 0)).set 2 ((Value.int .i64) 0)).alloc (.cells #[(Value.int .i64) 0, (Value.int .i64) 0, (Value.int .i64) 0, (Value.int .i64) 0] 27), by (repeat (first | with_reducible assumption | with_reducible exact Ext.refl _ | with_reducible refine Ext.set ?_ _ _ | with_reducible refine Ext.alloc ?_ _ | with_reducible refine Ext.drew ?_ | with_reducible refine Ext.drewN ?_ _ | assumption | exact Ext.refl _ | refine Ext.alloc ?_ _ | refine Ext.set ?_ _ _ | refine Ext.drew ?_ | refine Ext.drewN ?_ _ | refine Ext.below ?_ (by assumption) | refine Ext.trans ?_ (by assumption)))⟩ ?_
    rintro wz ⟨hz, xz⟩
    exact bodyPost_ret (results_c Try.results36 rfl (load_answer hz)) rfl ⟨by rw [hy.out]; rfl, below_of1 hz.right.right xz⟩
  | some x =>
    have hy := Lib.hid (show Bk.ans l a = answer x a by unfold Bk.ans; rw [hf])
    rw [hf] at hF
    change Calls _ _ _ _ (Pure (.tuple #[.agg #[(Value.int .i64) x.page, (Value.int .i64) x.size, (Value.int .i64) x.frame, (Value.int .i64) x.rights], Value.bool true]) _) at hF
    clear h h1 G3 G2 hf hl
    go_enter Try.func36, Try.ntmps36
    go_wp2_with (first | (go_at_call 43; refine hF.mono ?_; rintro e w3 ⟨rfl, b3⟩; have H3 := H2.below b3; have x3 := x2.below b3; clear c0; obtain ⟨a0, a1, a2⟩ := H3.right.cells3; have al := H3.right.lt) | (fail))
    have H4 := H3.alloc (.cells #[(Value.int .i64) x.page, (Value.int .i64) x.size, (Value.int .i64) x.frame, (Value.int .i64) x.rights] 27)
    have x4 := x3.alloc (.cells #[(Value.int .i64) x.page, (Value.int .i64) x.size, (Value.int .i64) x.frame, (Value.int .i64) x.rights] 27)
    have HA := Lib.hid (fun W => answer_any x a.page a.kind a.user W)
    have hy2 := hy
    clear hy
    generalize answer x ⟨a.page, a.kind, a.user⟩ = r at *
    go_wp2_with (refine (HA.out _).mono ?_; rintro e w5 ⟨rfl, b5⟩; have H5 := H4.below b5; have x5 := x4.below b5; obtain ⟨r0, r1, r2⟩ := H5.cells3; obtain ⟨f0, f1, f2⟩ := H5.frees3; have fl := H5.lt)
    refine ret_via (fun wz => Has wz (blk (w.heap.size + 1) #[(Value.int .i64) r.fin, (Value.int .i64) r.frame, (Value.int .i64) r.rights] 49 * (blk w.heap.size #[(Value.int .i64) a.page, (Value.int .i64) a.kind, Value.bool a.user] 29 * old w w.heap.size)) ∧ Ext w wz) ⟨((H5.set 0 ((Value.int .i64) r.fin)).set 1 ((Value.int .i64) r.frame)).set 2 ((Value.int .i64) r.rights), by (repeat (first | with_reducible assumption | with_reducible exact Ext.refl _ | with_reducible refine Ext.set ?_ _ _ | with_reducible refine Ext.alloc ?_ _ | with_reducible refine Ext.drew ?_ | with_reducible refine Ext.drewN ?_ _ | assumption | exact Ext.refl _ | refine Ext.alloc ?_ _ | refine Ext.set ?_ _ _ | refine Ext.drew ?_ | refine Ext.drewN ?_ _ | refine Ext.below ?_ (by assumption) | refine Ext.trans ?_ (by assumption)))⟩ ?_
    rintro wz ⟨hz, xz⟩
    exact bodyPost_ret (results_c Try.results36 rfl (load_answer hz)) rfl ⟨by rw [hy2.out]; rfl, below_of1 hz.right.right xz⟩
end Go.Proofs.Ytndhgomikpokpaa
