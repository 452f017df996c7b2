/- Contracts of package book: Protect, Answer. -/
import Derived.Test.YtegkimecdonfgaaTabB
import Derived.Test.YtegkimecdonfgaaTabR
import Derived.Test.YtegkimecdonfgaaWkList
import Derived.Test.YtegkimecdonfgaaWkFind
namespace Go.Proofs.Ytegkimecdonfgaa
open Go.RowKit
set_option maxRecDepth 100000
set_option maxHeartbeats 2000000 in
theorem protectB (p : Nat) (l : List Mp) (k r : Int) (R : HProp) (w : World) (hl : Bk.Ok l) (hk : i64 k) (h : Has w (bookAt p l * R)) :
    Calls Try.prog 37 #[.pointer (some ⟨p, 0, none⟩), .int .i64 k, .int .i64 r] w (Res (.tuple #[mpOf (Bk.protR l k r), (Value.int .i64) (Bk.protC l k r)]) (bookAt p (Bk.protL l k r) * R) w) := by
  have H1 := h.new #[(Value.int .i64) 0, (Value.int .i64) 0, (Value.int .i64) 0, (Value.int .i64) 0] 24
  have x1 := (Ext.refl w).alloc (.cells #[(Value.int .i64) 0, (Value.int .i64) 0, (Value.int .i64) 0, (Value.int .i64) 0] 24)
  have HH := has_any k
  unfold Bk.protR Bk.protC Bk.protL
  cases hb : Bk.protB k r with
  | false =>
    change Calls _ _ _ w (Res (.tuple #[mpOf none, (Value.int .i64) 1]) (bookAt p l * R) w)
    cases hh : hasB k with
    | false =>
      rw [hh] at HH
      clear hb hh
      clear hk hl h
      go_enter Try.func37, Try.ntmps37
      go_wp2_with (refine (HH _).mono ?_; rintro e w2 ⟨rfl, hw⟩; have H3 := hw.symm ▸ H1; have x3 := hw.symm ▸ x1; clear hw; obtain ⟨d0, d1, d2, d3⟩ := H3.cells4; obtain ⟨f0, f1, f2, f3⟩ := H3.frees4; have fl := H3.lt)
      refine ret_via (fun wz => Has wz (blk w.heap.size #[(Value.int .i64) 0, (Value.int .i64) 0, (Value.int .i64) 0, (Value.int .i64) 0] 24 * (bookAt p l * R)) ∧ Ext w wz) ⟨H3.set4 _ _ _ _, by (repeat (first | with_reducible assumption | with_reducible exact Ext.refl _ | with_reducible refine Ext.set ?_ _ _ | with_reducible refine Ext.alloc ?_ _ | with_reducible refine Ext.drew ?_ | with_reducible refine Ext.drewN ?_ _ | assumption | exact Ext.refl _ | refine Ext.alloc ?_ _ | refine Ext.set ?_ _ _ | refine Ext.drew ?_ | refine Ext.drewN ?_ _ | refine Ext.below ?_ (by assumption) | refine Ext.trans ?_ (by assumption)))⟩ ?_
      rintro wz ⟨hz, xz⟩
      exact bodyPost_ret (results_ct Try.results37 rfl rfl (load_map hz)) rfl ⟨rfl, hz.right, xz⟩
    | true =>
      rw [hh] at HH
      have hr : r < 0 ∨ 7 < r := by
        unfold Bk.protB at hb
        rw [hh] at hb
        rcases Int.lt_or_le r 0 with h0 | h0
        · exact .inl h0
        · rw [decide_eq_true h0] at hb
          simp at hb
          exact .inr hb
      clear hb hh
      rcases hr with h0 | h7
      · have hd : decide (r < 0) = true := decide_eq_true h0
        clear hk hl h
        go_enter Try.func37, Try.ntmps37
        go_wp2_with (refine (HH _).mono ?_; rintro e w2 ⟨rfl, hw⟩; have H3 := hw.symm ▸ H1; have x3 := hw.symm ▸ x1; clear hw; obtain ⟨d0, d1, d2, d3⟩ := H3.cells4; obtain ⟨f0, f1, f2, f3⟩ := H3.frees4; have fl := H3.lt)
        refine ret_via (fun wz => Has wz (blk w.heap.size #[(Value.int .i64) 0, (Value.int .i64) 0, (Value.int .i64) 0, (Value.int .i64) 0] 24 * (bookAt p l * R)) ∧ Ext w wz) ⟨H3.set4 _ _ _ _, by (repeat (first | with_reducible assumption | with_reducible exact Ext.refl _ | with_reducible refine Ext.set ?_ _ _ | with_reducible refine Ext.alloc ?_ _ | with_reducible refine Ext.drew ?_ | with_reducible refine Ext.drewN ?_ _ | assumption | exact Ext.refl _ | refine Ext.alloc ?_ _ | refine Ext.set ?_ _ _ | refine Ext.drew ?_ | refine Ext.drewN ?_ _ | refine Ext.below ?_ (by assumption) | refine Ext.trans ?_ (by assumption)))⟩ ?_
        rintro wz ⟨hz, xz⟩
        exact bodyPost_ret (results_ct Try.results37 rfl rfl (load_map hz)) rfl ⟨rfl, hz.right, xz⟩
      · have hd : decide (r < 0) = false := decide_eq_false (by omega)
        have hd7 : decide (7 < r) = true := decide_eq_true h7
        clear hk hl h
        go_enter Try.func37, Try.ntmps37
        go_wp2_with (refine (HH _).mono ?_; rintro e w2 ⟨rfl, hw⟩; have H3 := hw.symm ▸ H1; have x3 := hw.symm ▸ x1; clear hw; obtain ⟨d0, d1, d2, d3⟩ := H3.cells4; obtain ⟨f0, f1, f2, f3⟩ := H3.frees4; have fl := H3.lt)
        refine ret_via (fun wz => Has wz (blk w.heap.size #[(Value.int .i64) 0, (Value.int .i64) 0, (Value.int .i64) 0, (Value.int .i64) 0] 24 * (bookAt p l * R)) ∧ Ext w wz) ⟨H3.set4 _ _ _ _, by (repeat (first | with_reducible assumption | with_reducible exact Ext.refl _ | with_reducible refine Ext.set ?_ _ _ | with_reducible refine Ext.alloc ?_ _ | with_reducible refine Ext.drew ?_ | with_reducible refine Ext.drewN ?_ _ | assumption | exact Ext.refl _ | refine Ext.alloc ?_ _ | refine Ext.set ?_ _ _ | refine Ext.drew ?_ | refine Ext.drewN ?_ _ | refine Ext.below ?_ (by assumption) | refine Ext.trans ?_ (by assumption)))⟩ ?_
        rintro wz ⟨hz, xz⟩
        exact bodyPost_ret (results_ct Try.results37 rfl rfl (load_map hz)) rfl ⟨rfl, hz.right, xz⟩
  | true =>
    have hbi := Bk.protB_iff.1 hb
    have hh : hasB k = true := by unfold hasB; simp; omega
    obtain ⟨h0, h4, hr0, hr7⟩ := hbi
    have hd : decide (r < 0) = false := decide_eq_false (by omega)
    have hd7 : decide (7 < r) = false := decide_eq_false (by omega)
    rw [hh] at HH
    rw [if_pos rfl, if_pos rfl, if_pos rfl]
    have hB := at_any l hl k hk p _ _ H1.p2
    rcases Bk.place hl k with ⟨hf, _, hp⟩ | ⟨hi, ho, hf, _, _, _, hp⟩
    · rw [hf] at hB
      rw [hf, hp r]
      change Calls _ _ _ w (Res (.tuple #[mpOf none, (Value.int .i64) 5]) (bookAt p l * R) w)
      clear h hf hl hp hb hh
      go_enter Try.func37, Try.ntmps37
      go_wp2_with (first | (go_at_call 72; refine (HH _).mono ?_; rintro e w2 ⟨rfl, rfl⟩) | (go_at_call 79; refine hB.mono ?_; rintro e w2 ⟨i, _, rfl, _, b2⟩; have H3 := H1.below b2; have x3 := x1.below b2; obtain ⟨d0, d1, d2, d3⟩ := H3.cells4; obtain ⟨f0, f1, f2, f3⟩ := H3.frees4; have fl := H3.lt))
      refine ret_via (fun wz => Has wz (blk w.heap.size #[(Value.int .i64) 0, (Value.int .i64) 0, (Value.int .i64) 0, (Value.int .i64) 0] 24 * (bookAt p l * R)) ∧ Ext w wz) ⟨H3.set4 _ _ _ _, by (repeat (first | with_reducible assumption | with_reducible exact Ext.refl _ | with_reducible refine Ext.set ?_ _ _ | with_reducible refine Ext.alloc ?_ _ | with_reducible refine Ext.drew ?_ | with_reducible refine Ext.drewN ?_ _ | assumption | exact Ext.refl _ | refine Ext.alloc ?_ _ | refine Ext.set ?_ _ _ | refine Ext.drew ?_ | refine Ext.drewN ?_ _ | refine Ext.below ?_ (by assumption) | refine Ext.trans ?_ (by assumption)))⟩ ?_
      rintro wz ⟨hz, xz⟩
      exact bodyPost_ret (results_ct Try.results37 rfl rfl (load_map hz)) rfl ⟨rfl, hz.right, xz⟩
    · rw [hf] at hB
      rw [hf, hp r]
      change Calls _ _ _ w (Res (.tuple #[mpOf (some { l[Bk.pos l k] with rights := r }), (Value.int .i64) 0]) _ w)
      have hq := fun i (e : 0 ≤ k → i = Bk.pos l k) => e h0
      generalize Bk.pos l k = q at *
      clear h hf hl ho hb hp hh
      go_enter Try.func37, Try.ntmps37
      go_upto_region 6 with (first | (go_at_call 72; refine (HH _).mono ?_; rintro e w2 ⟨rfl, rfl⟩) | (go_at_call 79; refine hB.mono ?_; rintro e w2 ⟨i, _, rfl, hiq, b2⟩; obtain rfl := hq _ hiq; clear hiq hq hB))
      have H3 := H1.below b2
      have x3 := x1.below b2
      clear H1 x1 b2
      obtain ⟨A, c, h3⟩ := bookAt_open H3.p2
      have k0 := h3.cell 0
      have kl := h3.lt
      obtain ⟨g, rfl, gb, g0, g1, g2, g3⟩ := mrow_at h3.right hi
      have hbig := mrow_small h3.right
      have h4 := mrow_rights i r h3.p2 hi
      have x4 := x3.set ⟨g, i * 4 + 3, none⟩ ((Value.int .i64) r)
      have gf : w2.frozen? ⟨g, i * 4 + 3, none⟩ = false := by
        obtain ⟨b, hb, _, _, hf⟩ := Has.rowGet (e := 24) (size := 4) h3.right (i := i * 4 + 3) (u := (mcells l)[i * 4 + 3]'(by rw [mcells_len]; omega)) (List.getElem?_eq_getElem _)
        injection hb with hb
        injection hb with hb
        subst hb
        exact hf
      have hrow := Has.rowAt (e := 24) (size := 4) h3.p2 (by omega)
      obtain ⟨g', cur, hg', _, _, _, _, hblk⟩ := hrow
      injection hg' with hg'
      injection hg' with hg'
      subst hg'
      have hpg := hblk.ne
      have hpg' := hpg.symm
      have hblk2 : Has w2 (blk g cur 24 * (blk w.heap.size #[(Value.int .i64) 0, (Value.int .i64) 0, (Value.int .i64) 0, (Value.int .i64) 0] 24 * (blk p #[.slice (some ⟨g, 0, none⟩) l.length c] 133 * R))) := hblk.eq (by (simp only [star_assoc, star_left_comm, star_comm]))
      have hrg := hblk2.ne
      have hrg' := hrg.symm
      obtain ⟨d0, d1, d2, d3⟩ := hblk2.right.cells4
      obtain ⟨f0, f1, f2, f3⟩ := hblk2.right.frees4
      have fl := hblk2.right.lt
      clear hblk hblk2
      have hz : (l.take i ++ { l[i] with rights := r } :: l.drop (i + 1)).length = l.length := by simp; omega
      have HZ := Lib.hid hz
      clear hz
      generalize hxo : l[i] = x at *
      have HX := Lib.hid hxo
      clear hxo
      have h5 : Has (w2.setCell ⟨g, i * 4 + 3, none⟩ ((Value.int .i64) r)) (blk w.heap.size #[(Value.int .i64) 0, (Value.int .i64) 0, (Value.int .i64) 0, (Value.int .i64) 0] 24 * (blk p #[.slice (some ⟨g, 0, none⟩) l.length c] 133 * (mrow (.slice (some ⟨g, 0, none⟩) l.length c) (l.take i ++ { x with rights := r } :: l.drop (i + 1)) * R))) := h4.eq (by (simp only [star_assoc, star_left_comm, star_comm]))
      clear h3 h4 H3
      go_wp2_with fail
      refine ret_via (fun wz => Has wz (blk w.heap.size #[(Value.int .i64) x.page, (Value.int .i64) x.size, (Value.int .i64) x.frame, (Value.int .i64) r] 24 * (blk p #[.slice (some ⟨g, 0, none⟩) l.length c] 133 * (mrow (.slice (some ⟨g, 0, none⟩) l.length c) (l.take i ++ { x with rights := r } :: l.drop (i + 1)) * R))) ∧ Ext w wz) ⟨h5.set4 _ _ _ _, by (repeat (first | with_reducible assumption | with_reducible exact Ext.refl _ | with_reducible refine Ext.set ?_ _ _ | with_reducible refine Ext.alloc ?_ _ | with_reducible refine Ext.drew ?_ | with_reducible refine Ext.drewN ?_ _ | assumption | exact Ext.refl _ | refine Ext.alloc ?_ _ | refine Ext.set ?_ _ _ | refine Ext.drew ?_ | refine Ext.drewN ?_ _ | refine Ext.below ?_ (by assumption) | refine Ext.trans ?_ (by assumption)))⟩ ?_
      rintro wz ⟨hz, xz⟩
      exact bodyPost_ret (results_ct Try.results37 rfl rfl (load_map hz)) rfl (by have e1 := HX.out; subst e1; exact ⟨rfl, bookAt_shut (A := some ⟨g, 0, none⟩) (c := c) (by rw [HZ.out]; exact hz.right), xz⟩)
end Go.Proofs.Ytegkimecdonfgaa
namespace Go.Proofs.Ytegkimecdonfgaa
open Go.RowKit
set_option maxRecDepth 100000
theorem nodup_in {l : List Int} (h : l.Nodup) {k : Nat} (hk : k < l.length) : inB (l.take k) l[k] = false := by
  cases hb : inB (l.take k) l[k] with
  | false => rfl
  | true =>
    unfold inB at hb
    obtain ⟨x, hx, he⟩ := List.any_eq_true.1 hb
    obtain ⟨j, hj, hje⟩ := List.getElem_of_mem hx
    rw [List.getElem_take] at hje
    rw [List.length_take] at hj
    have := (List.pairwise_iff_getElem.1 h) j k (by omega) hk (by omega)
    have he : x = l[k] := by simpa using he
    rw [← hje] at he
    exact absurd he this
set_option maxHeartbeats 8000000 in
theorem tableBook_walk (N : Int) (B : Option Addr) (m d : Nat) (L : List Stp) (w : World) (_ : i64 N) (h2 : Arr w B m 9 (L.map Stp.cells)) (hok2 : ∀ x ∈ L, x.ok) :
    Calls Try.prog 6 #[(Value.int .i64) N, .slice B m d] w (Pure (Value.bool true) w) := by
  have hm2 := h2.2.1
  have hB := Lib.hid h2
  have hL := Lib.hid (show L.length = m by simpa using h2.1)
  clear h2
  have h0 := has_old w
  have x0 := Ext.refl w
  have HB := Lib.hid (fun w => tableBegun_any w)
  by_cases hN0 : N < 1
  · go_enter Try.func6, Try.ntmps6
    go_wp2_with (refine (HB.out _).mono ?_; rintro e w1 ⟨rfl, hb⟩)
    go_ret
    exact ⟨rfl, hb⟩
  by_cases hN1 : 128 < N
  · go_enter Try.func6, Try.ntmps6
    go_wp2_with (refine (HB.out _).mono ?_; rintro e w1 ⟨rfl, hb⟩)
    go_ret
    exact ⟨rfl, hb⟩
  by_cases hbig2 : 150 < m
  · go_enter Try.func6, Try.ntmps6
    go_wp2_with (refine (HB.out _).mono ?_; rintro e w1 ⟨rfl, hb⟩)
    go_ret
    exact ⟨rfl, hb⟩
  have hs := memS_ok (n := N) (taken := 1) (ws := []) (by omega) (by omega) (fun x hx => (by cases hx))
  have hT0 := Lib.hid (TB.first (N := N) (by omega) (by omega))
  go_enter Try.func6, Try.ntmps6
  go_wp2_with fail
  refine (HB.out _).mono ?_; rintro e w1 ⟨rfl, hb⟩
  have h1 := h0.below hb
  have x1 := x0.below hb
  clear h0 x0 hb HB
  go_wp2_with fail
  have hA1 : Arr w1 none 0 1 (([] : List Int).map cellsU) := ⟨rfl, by omega, fun i xs hi => (by simp at hi)⟩
  refine (memory_any N 1 none 0 0 [] _ (by omega) (by omega) hA1 (fun x hx => (by cases hx))).mono ?_; rintro e w2 ⟨f, q, rfl, h2, x2⟩
  have h3' := (h1.onto' h2.a2).a1
  have h3 : Has w2 (frA f (memS N 1 []) * old w w.heap.size) := frA_shut (h3'.p2.right) hs (Agree.refl _)
  have x3 := x1.trans x2
  clear h1 x1 h2 x2 hA1 h3' hs
  generalize memS N 1 [] = s at *
  go_wp2_with fail
  refine (newB _ _ h3).mono ?_; rintro e w3 ⟨b, rfl, h4', x4⟩
  have h4 := h4'.p2
  have x5 := x3.trans x4
  clear h3 x3 h4' x4
  go_wp2_with fail
  go_loopw [8] (fun t wr => ∃ (i : Nat) (s1 : Ms) (L1 : List Mp), i ≤ m ∧ t = (Value.int .i64) i ∧ Hid (TB s1 L1 N.toNat) ∧ Has wr (frA f s1 * (bookAt b L1 * old w w.heap.size)) ∧ Ext w wr) (fun t _ => m - (intOf t).toNat)
  case atStart => exact ⟨0, s, [], by omega, rfl, hT0, h4, x5⟩
  case round =>
    clear h4 x5 hT0
    obtain ⟨i, s1, L1, hi, rfl, HTB, hr, hx⟩ := hrel
    by_cases hlt : i < m
    · have hil : i < L.length := by have := hL.out; omega
      obtain ⟨b', off, hb, -⟩ := (hB.out.old1 hr.right.right hx).stp hil
      subst hb
      have ho := hok2 _ (List.getElem_mem hil)
      obtain ⟨x, hy⟩ : ∃ y, L[i] = y := ⟨_, rfl⟩
      rw [hy] at ho
      obtain ⟨dl, d0, d1, d2, d3, d4, d5, d6, d7, d8⟩ := (hB.out.old1 hr.right.right hx).stpAt hil hy
      obtain ⟨hop, _, hMo, hAc⟩ := ho
      have hs4 := hr.new #[(Value.int .i64) x.kind, (Value.int .i64) x.core, (Value.int .i64) x.m.page, (Value.int .i64) x.m.size, (Value.int .i64) x.m.frame, (Value.int .i64) x.m.rights, (Value.int .i64) x.a.page, (Value.int .i64) x.a.kind, Value.bool x.a.user] 28
      have x2 := hx.alloc (.cells #[(Value.int .i64) x.kind, (Value.int .i64) x.core, (Value.int .i64) x.m.page, (Value.int .i64) x.m.size, (Value.int .i64) x.m.frame, (Value.int .i64) x.m.rights, (Value.int .i64) x.a.page, (Value.int .i64) x.a.kind, Value.bool x.a.user] 28)
      go_upto_block 2 with fail
      generalize wr.alloc (.cells #[(Value.int .i64) x.kind, (Value.int .i64) x.core, (Value.int .i64) x.m.page, (Value.int .i64) x.m.size, (Value.int .i64) x.m.frame, (Value.int .i64) x.m.rights, (Value.int .i64) x.a.page, (Value.int .i64) x.a.kind, Value.bool x.a.user] 28) = w4 at *
      generalize wr.heap.size = X at *
      clear d0 d1 d2 d3 d4 d5 d6 d7 d8 dl hr hx
      have hw : Has w4 (frA f s1 * (bookAt b L1 * (blk X #[(Value.int .i64) x.kind, (Value.int .i64) x.core, (Value.int .i64) x.m.page, (Value.int .i64) x.m.size, (Value.int .i64) x.m.frame, (Value.int .i64) x.m.rights, (Value.int .i64) x.a.page, (Value.int .i64) x.a.kind, Value.bool x.a.user] 28 * old w w.heap.size))) := hs4.eq (by ac_rfl)
      have HXC := Lib.hid (fun (w' : World) (o : Int) (P Q : HProp) (h : Has w' (P * (Q * (blk X #[(Value.int .i64) o, (Value.int .i64) x.core, (Value.int .i64) x.m.page, (Value.int .i64) x.m.size, (Value.int .i64) x.m.frame, (Value.int .i64) x.m.rights, (Value.int .i64) x.a.page, (Value.int .i64) x.a.kind, Value.bool x.a.user] 28 * old w w.heap.size)))) => (⟨h.right.right.cell 2, h.right.right.cell 3, h.right.right.cell 4, h.right.right.cell 5, h.right.right.lt⟩ :
        w'.cell? ⟨X, 2, none⟩ = some ((Value.int .i64) x.m.page) ∧ w'.cell? ⟨X, 3, none⟩ = some ((Value.int .i64) x.m.size) ∧ w'.cell? ⟨X, 4, none⟩ = some ((Value.int .i64) x.m.frame) ∧ w'.cell? ⟨X, 5, none⟩ = some ((Value.int .i64) x.m.rights) ∧ X < w'.heap.size))
      have c0 := hw.right.right.cell 0
      obtain ⟨c2, c3, c4, c5, cl⟩ := HXC.out _ _ _ _ hw
      clear hs4 hy
      go_cut [] (fun wx => ∃ (s' : Ms) (L' : List Mp), Hid (TB s' L' N.toNat) ∧ Has wx (frA f s' * (bookAt b L' * old w w.heap.size)) ∧ Ext w wx)
      case first =>
        by_cases o1 : x.kind = 1
        · as_aux_lemma =>
          --[A
          have HI := Lib.hid (fun R w h => insA f s1 R w h 0 x.m)
          have HAD := Lib.hid (fun R w h => addB b L1 x.m R w HTB.out.lk.ok hMo.1 h)
          by_cases hc6 : insC s1 0 x.m = 6
          · obtain ⟨hfr, hss⟩ := HTB.out.full hc6
            rw [hc6, hss] at HI
            have HF := Lib.hid (fun R w h => freeA f s1 R w h)
            generalize s1.frees.length = nf at *
            generalize x.kind = op at *
            subst o1
            clear hc6 hss HAD
            have hnf : ¬ (3 : Int) ≤ (nf : Int) := by omega
            go_wp2_with fail
            refine (HI.out _ _ hw).mono ?_; rintro e w5 ⟨rfl, h5, x5⟩
            have x6 := x2.trans x5
            clear c0 c2 c3 c4 c5 cl hw x2 x5 HI
            go_wp2_with fail
            refine (HF.out _ _ h5).mono ?_; rintro e w6 ⟨rfl, hwz⟩
            subst hwz
            have hf := (h5.eq (show _ = blk X #[(Value.int .i64) 1, (Value.int .i64) x.core, (Value.int .i64) x.m.page, (Value.int .i64) x.m.size, (Value.int .i64) x.m.frame, (Value.int .i64) x.m.rights, (Value.int .i64) x.a.page, (Value.int .i64) x.a.kind, Value.bool x.a.user] 28 * (frA f s1 * (bookAt b L1 * old w w.heap.size)) by ac_rfl)).right
            clear h5
            go_wp2_with fail
            go_roundw
            case rel => exact ⟨i + 1, s1, L1, by omega, by go_num, HTB, hf, x6⟩
            case measure => simp [intOf]; omega
          · obtain ⟨he, ht⟩ := HTB.out.add x.m hc6
            have HT := Lib.hid ht
            have hc6' : (insC s1 0 x.m == 6) = false := by simpa using hc6
            rw [← he] at HAD
            clear he ht hc6 HTB
            generalize insC s1 0 x.m = cd at *
            generalize insS s1 0 x.m = sA at *
            generalize Bk.add L1 x.m = LA at *
            generalize x.kind = op at *
            subst o1
            go_wp2_with fail
            refine (HI.out _ _ hw).mono ?_; rintro e w5 ⟨rfl, h5, x5⟩
            have x6 := x2.trans x5
            clear c0 c2 c3 c4 c5 cl hw x2 x5 HI
            obtain ⟨c2, c3, c4, c5, cl⟩ := HXC.out _ 1 _ _ h5
            go_wp2_with fail
            refine (HAD.out _ _ h5.p2).mono ?_; rintro e w6 ⟨rfl, h6, x7⟩
            have hf := (h6.eq (show _ = blk X #[(Value.int .i64) 1, (Value.int .i64) x.core, (Value.int .i64) x.m.page, (Value.int .i64) x.m.size, (Value.int .i64) x.m.frame, (Value.int .i64) x.m.rights, (Value.int .i64) x.a.page, (Value.int .i64) x.a.kind, Value.bool x.a.user] 28 * (frA f sA * (bookAt b LA * old w w.heap.size)) by ac_rfl)).right
            have xf := x6.trans x7
            clear c2 c3 c4 c5 cl h5 h6 x6 x7 HAD HXC
            go_wp2_with fail
            go_meet
            case rel => exact ⟨sA, LA, HT, hf, xf⟩
          --A]
        by_cases o2 : x.kind = 2
        · as_aux_lemma =>
          --[B
          have HR := Lib.hid (fun R w h => remA f s1 R w h 0 x.m.page)
          unfold RemovedA at HR
          have HD := Lib.hid (fun R w h => dropB b L1 x.m.page R w HTB.out.lk.ok hMo.1 h)
          obtain ⟨e1, e2, ht⟩ := HTB.out.drop x.m.page
          rw [← e1, e2] at HD
          have HT := Lib.hid ht
          have HG := Lib.hid (fun k (hk : k < (remG s1 0 x.m.page).length) => HTB.out.gives x.m.page hk)
          have HOK := Lib.hid (remS_ok HTB.out.ok 0 x.m.page)
          clear e1 e2 ht HTB
          generalize findC s1 0 x.m.page = cd at *
          generalize findM s1 0 x.m.page = mp at *
          generalize remG s1 0 x.m.page = g at *
          generalize remS s1 0 x.m.page = sA at *
          generalize Bk.dropL L1 x.m.page = LA at *
          generalize x.kind = op at *
          subst o2
          go_wp2_with fail
          refine (HR.out _ _ hw).mono ?_; rintro e w5 ⟨G, gn, gc, rfl, h5, x5⟩
          have h6 : Has _ (bookAt b L1 * ((frA f sA * (irow (.slice G gn gc) g * blk w5.heap.size #[(Value.int .i64) mp.page, (Value.int .i64) mp.size, (Value.int .i64) mp.frame, (Value.int .i64) mp.rights] 24)) * (blk X #[(Value.int .i64) 2, (Value.int .i64) x.core, (Value.int .i64) x.m.page, (Value.int .i64) x.m.size, (Value.int .i64) x.m.frame, (Value.int .i64) x.m.rights, (Value.int .i64) x.a.page, (Value.int .i64) x.a.kind, Value.bool x.a.user] 28 * old w w.heap.size))) := (h5.new #[(Value.int .i64) mp.page, (Value.int .i64) mp.size, (Value.int .i64) mp.frame, (Value.int .i64) mp.rights] 24).eq (by ac_rfl)
          have x6 := (x2.trans x5).alloc (.cells #[(Value.int .i64) mp.page, (Value.int .i64) mp.size, (Value.int .i64) mp.frame, (Value.int .i64) mp.rights] 24)
          clear c0 c2 c3 c4 c5 cl hw x2 h5 x5 HR
          go_upto_region 21 with fail
          generalize w5.alloc (.cells #[(Value.int .i64) mp.page, (Value.int .i64) mp.size, (Value.int .i64) mp.frame, (Value.int .i64) mp.rights] 24) = w6 at *
          generalize w5.heap.size = Y at *
          obtain ⟨c2, c3, c4, c5, cl⟩ := HXC.out _ 2 _ _ h6
          go_wp2_with fail
          refine (HD.out _ _ h6).mono ?_; rintro e w7 ⟨rfl, h7, x7⟩
          have h8 : Has _ (blk w7.heap.size #[(Value.int .i64) mp.page, (Value.int .i64) mp.size, (Value.int .i64) mp.frame, (Value.int .i64) mp.rights] 24 * (blk Y #[(Value.int .i64) mp.page, (Value.int .i64) mp.size, (Value.int .i64) mp.frame, (Value.int .i64) mp.rights] 24 * (frA f sA * (irow (.slice G gn gc) g * (bookAt b LA * (blk X #[(Value.int .i64) 2, (Value.int .i64) x.core, (Value.int .i64) x.m.page, (Value.int .i64) x.m.size, (Value.int .i64) x.m.frame, (Value.int .i64) x.m.rights, (Value.int .i64) x.a.page, (Value.int .i64) x.a.kind, Value.bool x.a.user] 28 * old w w.heap.size)))))) := (h7.new #[(Value.int .i64) mp.page, (Value.int .i64) mp.size, (Value.int .i64) mp.frame, (Value.int .i64) mp.rights] 24).eq (by ac_rfl)
          have x8 := (x6.trans x7).alloc (.cells #[(Value.int .i64) mp.page, (Value.int .i64) mp.size, (Value.int .i64) mp.frame, (Value.int .i64) mp.rights] 24)
          clear c2 c3 c4 c5 cl h6 x6 h7 x7 HD
          go_upto_region 22 with fail
          generalize w7.alloc (.cells #[(Value.int .i64) mp.page, (Value.int .i64) mp.size, (Value.int .i64) mp.frame, (Value.int .i64) mp.rights] 24) = w8 at *
          generalize w7.heap.size = Z at *
          obtain ⟨z0, z1, z2, z3⟩ := h8.cells4
          obtain ⟨y0, y1, y2, y3⟩ := h8.right.cells4
          have zl := h8.lt
          have yl := h8.right.lt
          have h9 : Has w8 (frA f (giveL sA (g.take 0)) * (irow (.slice G gn gc) g * (bookAt b LA * old w w.heap.size))) := (h8.right.right.eq (show _ = blk X #[(Value.int .i64) 2, (Value.int .i64) x.core, (Value.int .i64) x.m.page, (Value.int .i64) x.m.size, (Value.int .i64) x.m.frame, (Value.int .i64) x.m.rights, (Value.int .i64) x.a.page, (Value.int .i64) x.a.kind, Value.bool x.a.user] 28 * (frA f (giveL sA (g.take 0)) * (irow (.slice G gn gc) g * (bookAt b LA * old w w.heap.size))) by (rw [show giveL sA (g.take 0) = sA from rfl]; ac_rfl))).right
          have hgl := Lib.hid (irow_len h9.right)
          have hgs := irow_small h9.right
          go_wp2_with fail
          go_loopw [16] (fun t wz => ∃ (k : Nat), k ≤ gn ∧ t = (Value.int .i64) k ∧ Hid ((giveL sA (g.take k)).Ok) ∧ Has wz (frA f (giveL sA (g.take k)) * (irow (.slice G gn gc) g * (bookAt b LA * old w w.heap.size))) ∧ Ext w wz) (fun t _ => gn - (intOf t).toNat)
          case atStart => exact ⟨0, by omega, rfl, HOK, h9, x8⟩
          case round =>
            clear h8 h9 x8 HOK z0 z1 z2 z3 y0 y1 y2 y3 zl yl
            obtain ⟨k, hk, rfl, HO, hz, hxz⟩ := hrel
            by_cases hkl : k < gn
            · obtain ⟨bG, hG, hbG, cG⟩ := irow_at hz.right (k := k) (by have := hgl.out; omega)
              subst hG
              have hkg : k < g.length := by have := hgl.out; omega
              have et : g.take (k + 1) = g.take k ++ [g[k]] := List.take_succ_eq_append_getElem hkg
              have GF := Lib.hid (fun R w h => giveA f (giveL sA (g.take k)) R w h g[k])
              have HO1 := Lib.hid (HO.out.giveS g[k])
              rw [← giveL_snoc, ← et, HG.out k hkg] at GF
              rw [← giveL_snoc, ← et] at HO1
              generalize g[k] = v at *
              clear hkg et HO
              go_wp2_with fail
              refine (GF.out _ _ hz).mono ?_; rintro e w5 ⟨rfl, h5, x5⟩
              go_wp2_with fail
              go_roundw
              case rel => exact ⟨k + 1, by omega, by go_num, HO1, h5, hxz.trans x5⟩
              case measure => simp [intOf]; omega
            · obtain rfl : k = gn := by omega
              have et : g.take k = g := List.take_of_length_le (by have := hgl.out; omega)
              rw [et] at hz
              have hf := (hz.eq (show _ = irow (.slice G k gc) g * (frA f (giveL sA g) * (bookAt b LA * old w w.heap.size)) by ac_rfl)).right
              go_wp2_with fail
              go_meet
              case rel => exact ⟨giveL sA g, LA, HT, hf, hxz⟩
          --B]
        by_cases o3 : x.kind = 3
        · as_aux_lemma =>
          --[C
          have HR := Lib.hid (fun R w h => prA f s1 R w h 0 x.m.page x.m.rights)
          have HD := Lib.hid (fun R w h => protectB b L1 x.m.page x.m.rights R w HTB.out.lk.ok hMo.1 h)
          obtain ⟨e1, e2, ht⟩ := HTB.out.prot x.m.page x.m.rights
          rw [← e1, e2] at HD
          have HT := Lib.hid ht
          clear e1 e2 ht HTB
          generalize prC s1 0 x.m.page x.m.rights = cd at *
          generalize prM s1 0 x.m.page x.m.rights = mp at *
          generalize prS s1 0 x.m.page x.m.rights = sA at *
          generalize Bk.protL L1 x.m.page x.m.rights = LA at *
          generalize x.kind = op at *
          subst o3
          go_wp2_with fail
          refine (HR.out _ _ hw).mono ?_; rintro e w5 ⟨rfl, h5, x5⟩
          have h6 : Has _ (bookAt b L1 * ((frA f sA * blk w5.heap.size #[(Value.int .i64) mp.page, (Value.int .i64) mp.size, (Value.int .i64) mp.frame, (Value.int .i64) mp.rights] 24) * (blk X #[(Value.int .i64) 3, (Value.int .i64) x.core, (Value.int .i64) x.m.page, (Value.int .i64) x.m.size, (Value.int .i64) x.m.frame, (Value.int .i64) x.m.rights, (Value.int .i64) x.a.page, (Value.int .i64) x.a.kind, Value.bool x.a.user] 28 * old w w.heap.size))) := (h5.new #[(Value.int .i64) mp.page, (Value.int .i64) mp.size, (Value.int .i64) mp.frame, (Value.int .i64) mp.rights] 24).eq (by ac_rfl)
          have x6 := (x2.trans x5).alloc (.cells #[(Value.int .i64) mp.page, (Value.int .i64) mp.size, (Value.int .i64) mp.frame, (Value.int .i64) mp.rights] 24)
          clear c0 c2 c3 c4 c5 cl hw x2 h5 x5 HR
          go_upto_region 31 with fail
          generalize w5.alloc (.cells #[(Value.int .i64) mp.page, (Value.int .i64) mp.size, (Value.int .i64) mp.frame, (Value.int .i64) mp.rights] 24) = w6 at *
          generalize w5.heap.size = Y at *
          obtain ⟨c2, c3, c4, c5, cl⟩ := HXC.out _ 3 _ _ h6
          go_wp2_with fail
          refine (HD.out _ _ h6).mono ?_; rintro e w7 ⟨rfl, h7, x7⟩
          have h8 : Has _ (blk w7.heap.size #[(Value.int .i64) mp.page, (Value.int .i64) mp.size, (Value.int .i64) mp.frame, (Value.int .i64) mp.rights] 24 * (blk Y #[(Value.int .i64) mp.page, (Value.int .i64) mp.size, (Value.int .i64) mp.frame, (Value.int .i64) mp.rights] 24 * (blk X #[(Value.int .i64) 3, (Value.int .i64) x.core, (Value.int .i64) x.m.page, (Value.int .i64) x.m.size, (Value.int .i64) x.m.frame, (Value.int .i64) x.m.rights, (Value.int .i64) x.a.page, (Value.int .i64) x.a.kind, Value.bool x.a.user] 28 * (frA f sA * (bookAt b LA * old w w.heap.size))))) := (h7.new #[(Value.int .i64) mp.page, (Value.int .i64) mp.size, (Value.int .i64) mp.frame, (Value.int .i64) mp.rights] 24).eq (by ac_rfl)
          have x8 := (x6.trans x7).alloc (.cells #[(Value.int .i64) mp.page, (Value.int .i64) mp.size, (Value.int .i64) mp.frame, (Value.int .i64) mp.rights] 24)
          clear c2 c3 c4 c5 cl h6 x6 h7 x7 HD
          go_upto_region 32 with fail
          generalize w7.alloc (.cells #[(Value.int .i64) mp.page, (Value.int .i64) mp.size, (Value.int .i64) mp.frame, (Value.int .i64) mp.rights] 24) = w8 at *
          generalize w7.heap.size = Z at *
          obtain ⟨z0, z1, z2, z3⟩ := h8.cells4
          obtain ⟨y0, y1, y2, y3⟩ := h8.right.cells4
          have zl := h8.lt
          have yl := h8.right.lt
          go_wp2_with fail
          go_meet
          case rel => exact ⟨sA, LA, HT, h8.right.right.right, x8⟩
          --C]
        have hf := (hw.eq (show _ = blk X #[(Value.int .i64) x.kind, (Value.int .i64) x.core, (Value.int .i64) x.m.page, (Value.int .i64) x.m.size, (Value.int .i64) x.m.frame, (Value.int .i64) x.m.rights, (Value.int .i64) x.a.page, (Value.int .i64) x.a.kind, Value.bool x.a.user] 28 * (frA f s1 * (bookAt b L1 * old w w.heap.size)) by ac_rfl)).right
        go_wp2_with fail
        go_meet
        case rel => exact ⟨s1, L1, HTB, hf, x2⟩
      case rest =>
        --[D
        clear c0 c2 c3 c4 c5 cl hw x2 HXC HTB
        obtain ⟨s', L', HTB, hw, x2⟩ := hcut
        obtain ⟨a1, a2, a3, a4, a5⟩ := HTB.out.all
        have HLs := Lib.hid (fun R w h => listW f s' [] _ HTB.out.wf R w h)
        have HTs := Lib.hid (fun R w h => tablesW f s' [] _ HTB.out.wf R w h)
        rw [a1] at HLs
        have hLok := HTB.out.lk.ok
        have HLB := Lib.hid (fun R w h => listB b L' R w (by have := hLok.le; omega) h)
        have HND := Lib.hid (fun A n c R w h => neededR L' A n c hLok R w h)
        have HF := Lib.hid (fun R w h => freeA f s' R w h)
        have HTA := Lib.hid (fun t R w h => takenA f s' R w h t)
        have HAL := Lib.hid (And.intro a4 a5)
        rw [← a2] at HND
        have hK := Lib.hid (show (allT s' 0).length = (allT s' 0).length from rfl)
        clear a1 a4 a5 hLok
        generalize allT s' 0 = TT at *
        generalize s'.frees.length = nf at *
        clear a2 hK
        unfold ClonedM at HLB
        go_wp2_with fail
        refine (HLs.out _ _ hw).mono ?_; rintro e w5 ⟨A1, c1, rfl, h5, x5⟩
        have x6 := x2.trans x5
        have hs5 := mrow_small h5
        clear hw x2 x5 HLs
        go_wp2_with fail
        refine (HTs.out _ _ h5.p2).mono ?_; rintro e w6 ⟨A2, c2, rfl, h6, x7⟩
        have x8 := x6.trans x7
        have hs6 := irow_small h6
        have hcap6 := irow_cap h6
        clear h5 x6 x7 HTs
        have h7 : Has w6 (bookAt b L' * (irow (.slice A2 TT.length c2) TT * (frA f s' * (mrow (.slice A1 L'.length c1) L' * old w w.heap.size)))) := h6.eq (by ac_rfl)
        clear h6
        go_wp2_with fail
        refine (HLB.out _ _ h7).mono ?_; rintro e w7 ⟨A3, n3, c3, rfl, h8, x9⟩
        have h9 : Has w7 (mrow (.slice A1 L'.length c1) L' * (mrow (.slice A3 n3 c3) L' * (bookAt b L' * (irow (.slice A2 TT.length c2) TT * (frA f s' * old w w.heap.size))))) := (h7.onto' h8).eq (by ac_rfl)
        have x10 := x8.trans x9
        have hs9 := mrow_small h9.right
        clear h7 h8 x8 x9 HLB
        go_wp2_with fail
        refine (sameMaps_any L' A1 A3 L'.length c1 n3 c3 _ _ h9).mono ?_; rintro e w8 ⟨rfl, b8⟩
        have h10 := h9.below b8
        have x11 := x10.below b8
        clear h9 x10 b8
        go_wp2_with fail
        refine (HND.out A1 L'.length c1 _ _ h10).mono ?_; rintro e w9 ⟨rfl, b9⟩
        have h11 : Has w9 (frA f s' * (irow (.slice A2 TT.length c2) TT * (mrow (.slice A1 L'.length c1) L' * (mrow (.slice A3 n3 c3) L' * (bookAt b L' * old w w.heap.size))))) := (h10.below b9).eq (by ac_rfl)
        have x12 := x11.below b9
        clear h10 x11 b9 HND
        have hnf : (nf : Int) ≤ N := by omega
        have hKN : ((TT.length : Int) != N - (nf : Int)) = false := by simp; omega
        go_wp2_with fail
        refine (HF.out _ _ h11).mono ?_; rintro e w10 ⟨rfl, hwz⟩
        subst hwz
        go_wp2_with fail
        clear hnf hKN a3
        go_loopw [25] (fun t wz => ∃ (k : Nat), k ≤ TT.length ∧ t = (Value.int .i64) k ∧ Has wz (frA f s' * (irow (.slice A2 TT.length c2) TT * (mrow (.slice A1 L'.length c1) L' * (mrow (.slice A3 n3 c3) L' * (bookAt b L' * old w w.heap.size))))) ∧ Ext w wz) (fun t _ => TT.length - (intOf t).toNat)
        case atStart => exact ⟨0, by omega, rfl, h11, x12⟩
        case round =>
          clear h11 x12
          obtain ⟨k, hk, rfl, hz, hxz⟩ := hrel
          by_cases hkl : k < TT.length
          · obtain ⟨bG, hG, hbG, cG⟩ := irow_at hz.right (k := k) hkl
            subst hG
            have HIN := Lib.hid (fun w' (h : Has w' (frA f s' * (irow (.slice (some ⟨bG, 0, none⟩) TT.length c2) TT * (mrow (.slice A1 L'.length c1) L' * (mrow (.slice A3 n3 c3) L' * (bookAt b L' * old w w.heap.size)))))) => in_any (some ⟨bG, 0, none⟩) k c2 (TT.take k) TT[k] w' (irow_take h.right k (by omega)))
            rw [nodup_in HAL.out.1 hkl] at HIN
            have HTK := Lib.hid (fun R w' h => HTA.out TT[k] R w' h)
            rw [HAL.out.2 _ (List.getElem_mem hkl)] at HTK
            have vc := via_cell cG
            have hkc : (k : Int) ≤ c2 := by omega
            have hkc' : k ≤ c2 := by omega
            generalize TT[k] = v at *
            go_upto_region 41 with fail
            refine wp_region_via (by kernel_rfl) (by kernel_rfl) ?_
            repeat (first | go_big_quiet_step ((first | (go_at_call 42; exact Same.via (HTK.out _ _ (hz.via _))) | (go_at_call 43; exact Same.via (HIN.out _ (hz.via _))))) | quiet_step ((first | (go_at_call 42; exact Same.via (HTK.out _ _ (hz.via _))) | (go_at_call 43; exact Same.via (HIN.out _ (hz.via _))))))
            refine wpQuiet_nil ?_
            intro _ hw'
            obtain ⟨uq, hw''⟩ := hw'
            subst hw''
            have hz' := hz.via uq
            have xz' := hxz.below (via_below _ uq)
            clear hz hxz vc cG hbG
            go_wp2_with fail
            go_roundw
            case rel => exact ⟨k + 1, by omega, by go_num, hz', xz'⟩
            case measure => simp [intOf]; omega
          · obtain rfl : k = TT.length := by omega
            have hf := (hz.eq (show _ = irow (.slice A2 TT.length c2) TT * (mrow (.slice A1 L'.length c1) L' * (mrow (.slice A3 n3 c3) L' * (frA f s' * (bookAt b L' * old w w.heap.size)))) by ac_rfl)).right.right.right
            go_wp2_with fail
            go_roundw
            case rel => exact ⟨i + 1, s', L', by omega, by go_num, HTB, hf, hxz⟩
            case measure => simp [intOf]; omega
        --D]
    · obtain rfl : i = m := by omega
      go_wp2_with fail
      go_ret
      exact ⟨rfl, below_of1 hr.right.right hx⟩
end Go.Proofs.Ytegkimecdonfgaa
