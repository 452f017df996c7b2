/- Contracts of package book: New, List, Copy, Find, Drop. -/
import Derived.Test.YtndhgomikpokpaaBkAt
import Derived.Test.YtndhgomikpokpaaBookM3
import Derived.Test.YtndhgomikpokpaaRet
import Derived.Test.YtndhgomikpokpaaMemS
namespace Go.Proofs.Ytndhgomikpokpaa
open Go.RowKit
set_option maxRecDepth 100000

theorem newB (R : HProp) (w : World) (h : Has w R) : Calls Try.prog 16 #[] w fun e w' => ∃ p, Res (.pointer (some ⟨p, 0, none⟩)) (bookAt p [] * R) w e w' := by
  have h1 := h.new #[.slice none 0 0] 155
  have h2 : Has (w.alloc (.cells #[.slice none 0 0] 155)) (blk w.heap.size #[.slice none 0 0] 155 * (mrow (.slice none ([] : List Mp).length 0) [] * R)) := (Has.rowNil h1).p2
  go_enter Try.func16, Try.ntmps16
  go_wp2
  go_ret
  exact ⟨_, rfl, bookAt_shut h2, (Ext.refl w).alloc _⟩
theorem listB (p : Nat) (l : List Mp) (R : HProp) (w : World) (hs : l.length ≤ 1000000) (h : Has w (bookAt p l * R)) :
    Calls Try.prog 19 #[.pointer (some ⟨p, 0, none⟩)] w (ClonedM l w) := by
  obtain ⟨A, c, h⟩ := bookAt_open h
  have hC := clone_mp l A l.length c _ w hs h.p2
  have c0 := h.cell 0
  have hp := h.lt
  go_enter Try.func19, Try.ntmps19
  go_wp2_with (refine hC.mono ?_; rintro e w2 ⟨A', n', c', rfl, h2, x2⟩)
  go_ret
  exact ⟨A', n', c', rfl, h2, x2⟩
theorem copyB (p : Nat) (l : List Mp) (R : HProp) (w : World) (hs : l.length ≤ 1000000) (h : Has w (bookAt p l * R)) :
    Calls Try.prog 37 #[.pointer (some ⟨p, 0, none⟩)] w fun e w' => ∃ q, Res (.pointer (some ⟨q, 0, none⟩)) (bookAt q l * (bookAt p l * R)) w e w' := by
  have hC := listB p l R w hs h
  go_enter Try.func37, Try.ntmps37
  go_wp2_with fail
  refine hC.mono ?_; rintro e w2 ⟨A', n', c', rfl, h2, x2⟩
  obtain rfl := mrow_len h2
  have h3 := (h.onto' h2).new #[.slice A' l.length c'] 155
  have x3 := x2.alloc (.cells #[.slice A' l.length c'] 155)
  go_wp2_with fail
  go_ret
  exact ⟨_, rfl, bookAt_shut h3, x3⟩
theorem findB (p : Nat) (l : List Mp) (k : Int) (R : HProp) (w : World) (hl : Bk.Ok l) (hk : i64 k) (h : Has w (bookAt p l * R)) :
    Calls Try.prog 43 #[.pointer (some ⟨p, 0, none⟩), .int .i64 k] w (Pure (.tuple #[mpOf (Bk.find l k), Value.bool (Bk.find l k).isSome]) w) := by
  have h1 := h.new #[(Value.int .i64) 0, (Value.int .i64) 0, (Value.int .i64) 0, (Value.int .i64) 0] 27
  have H1 := (has_old w).new #[(Value.int .i64) 0, (Value.int .i64) 0, (Value.int .i64) 0, (Value.int .i64) 0] 27
  have x1 := (Ext.refl w).alloc (.cells #[(Value.int .i64) 0, (Value.int .i64) 0, (Value.int .i64) 0, (Value.int .i64) 0] 27)
  have hB := at_any l hl k hk p _ _ h1.p2
  have hpl := Bk.place hl k
  rcases hpl with ⟨hf, _⟩ | ⟨hi, ho, hf, h0, _⟩
  · rw [hf] at hB ⊢
    clear h h1 hf hl
    go_enter Try.func43, Try.ntmps43
    go_wp2_with (refine hB.mono ?_; rintro e w2 ⟨i, _, rfl, _, b2⟩; have H3 := H1.below b2; have x3 := x1.below b2; obtain ⟨d0, d1, d2, d3⟩ := H3.cells4; obtain ⟨f0, f1, f2, f3⟩ := H3.frees4; have fl := H3.lt)
    refine ret_via (fun wz => Has wz (blk w.heap.size #[(Value.int .i64) 0, (Value.int .i64) 0, (Value.int .i64) 0, (Value.int .i64) 0] 27 * (old w w.heap.size)) ∧ Ext w wz) ⟨H3.set4 _ _ _ _, by (repeat (first | with_reducible assumption | with_reducible exact Ext.refl _ | with_reducible refine Ext.set ?_ _ _ | with_reducible refine Ext.alloc ?_ _ | with_reducible refine Ext.drew ?_ | with_reducible refine Ext.drewN ?_ _ | assumption | exact Ext.refl _ | refine Ext.alloc ?_ _ | refine Ext.set ?_ _ _ | refine Ext.drew ?_ | refine Ext.drewN ?_ _ | refine Ext.below ?_ (by assumption) | refine Ext.trans ?_ (by assumption)))⟩ ?_
    rintro wz ⟨hz, xz⟩
    exact bodyPost_ret (results_ct Try.results43 rfl rfl (load_map hz)) rfl ⟨rfl, below_of1 hz.right xz⟩
  · rw [hf] at hB ⊢
    have hq := fun i (e : 0 ≤ k → i = Bk.pos l k) => e h0
    generalize Bk.pos l k = q at *
    clear h hf hl ho
    go_enter Try.func43, Try.ntmps43
    go_wp2_with (refine hB.mono ?_; rintro e w2 ⟨i, _, rfl, hiq, b2⟩; obtain rfl := hq _ hiq; clear hiq hq; have H3 := H1.below b2; have x3 := x1.below b2; obtain ⟨A, c, h3⟩ := bookAt_open (h1.below b2).p2; obtain ⟨d0, d1, d2, d3⟩ := H3.cells4; obtain ⟨f0, f1, f2, f3⟩ := H3.frees4; have fl := H3.lt; have k0 := h3.cell 0; have kl := h3.lt; obtain ⟨g, rfl, gb, g0, g1, g2, g3⟩ := mrow_at h3.right hi)
    generalize l[i] = x at *
    refine ret_via (fun wz => Has wz (blk w.heap.size #[(Value.int .i64) x.page, (Value.int .i64) x.size, (Value.int .i64) x.frame, (Value.int .i64) x.rights] 27 * (old w w.heap.size)) ∧ Ext w wz) ⟨H3.set4 _ _ _ _, by (repeat (first | with_reducible assumption | with_reducible exact Ext.refl _ | with_reducible refine Ext.set ?_ _ _ | with_reducible refine Ext.alloc ?_ _ | with_reducible refine Ext.drew ?_ | with_reducible refine Ext.drewN ?_ _ | assumption | exact Ext.refl _ | refine Ext.alloc ?_ _ | refine Ext.set ?_ _ _ | refine Ext.drew ?_ | refine Ext.drewN ?_ _ | refine Ext.below ?_ (by assumption) | refine Ext.trans ?_ (by assumption)))⟩ ?_
    rintro wz ⟨hz, xz⟩
    exact bodyPost_ret (results_ct Try.results43 rfl rfl (load_map hz)) rfl ⟨rfl, below_of1 hz.right xz⟩
set_option maxHeartbeats 2000000 in
theorem dropB (p : Nat) (l : List Mp) (k : Int) (R : HProp) (w : World) (hl : Bk.Ok l) (hk : i64 k) (h : Has w (bookAt p l * R)) :
    Calls Try.prog 17 #[.pointer (some ⟨p, 0, none⟩), .int .i64 k] w (Res (.tuple #[mpOf (Bk.dropR l k), (Value.int .i64) (Bk.dropC l k)]) (bookAt p (Bk.dropL l k) * R) w) := by
  have H1 := h.new #[(Value.int .i64) 0, (Value.int .i64) 0, (Value.int .i64) 0, (Value.int .i64) 0] 27
  have x1 := (Ext.refl w).alloc (.cells #[(Value.int .i64) 0, (Value.int .i64) 0, (Value.int .i64) 0, (Value.int .i64) 0] 27)
  have HH := has_any k
  have e0 := H1.p2
  cases hb : hasB k with
  | false =>
    rw [hb] at HH
    unfold Bk.dropR Bk.dropC Bk.dropL
    rw [hb]
    clear hb e0
    go_enter Try.func17, Try.ntmps17
    go_wp2_with (refine (HH _).mono ?_; rintro e w2 ⟨rfl, hw⟩; have H3 := hw.symm ▸ H1; have x3 := hw.symm ▸ x1; clear hw; obtain ⟨d0, d1, d2, d3⟩ := H3.cells4; obtain ⟨f0, f1, f2, f3⟩ := H3.frees4; have fl := H3.lt)
    refine ret_via (fun wz => Has wz (blk w.heap.size #[(Value.int .i64) 0, (Value.int .i64) 0, (Value.int .i64) 0, (Value.int .i64) 0] 27 * (bookAt p l * R)) ∧ Ext w wz) ⟨H3.set4 _ _ _ _, by (repeat (first | with_reducible assumption | with_reducible exact Ext.refl _ | with_reducible refine Ext.set ?_ _ _ | with_reducible refine Ext.alloc ?_ _ | with_reducible refine Ext.drew ?_ | with_reducible refine Ext.drewN ?_ _ | assumption | exact Ext.refl _ | refine Ext.alloc ?_ _ | refine Ext.set ?_ _ _ | refine Ext.drew ?_ | refine Ext.drewN ?_ _ | refine Ext.below ?_ (by assumption) | refine Ext.trans ?_ (by assumption)))⟩ ?_
    rintro wz ⟨hz, xz⟩
    exact bodyPost_ret (results_ct Try.results17 rfl rfl (load_map hz)) rfl ⟨rfl, hz.right, xz⟩
  | true =>
    rw [hb] at HH
    unfold Bk.dropR Bk.dropC Bk.dropL
    rw [hb]
    have hB := at_any l hl k hk p _ _ e0
    rcases Bk.place hl k with ⟨hf, hd, _⟩ | ⟨hi, ho, hf, h0, _, hd, _⟩
    · rw [hf] at hB
      rw [if_pos rfl, if_pos rfl, if_pos rfl, hf, hd]
      clear h e0 hf hl hd hb
      go_enter Try.func17, Try.ntmps17
      go_wp2_with (first | (go_at_call 90; refine (HH _).mono ?_; rintro e w2 ⟨rfl, rfl⟩) | (go_at_call 91; refine hB.mono ?_; rintro e w2 ⟨i, _, rfl, _, b2⟩; have H3 := H1.below b2; have x3 := x1.below b2; obtain ⟨d0, d1, d2, d3⟩ := H3.cells4; obtain ⟨f0, f1, f2, f3⟩ := H3.frees4; have fl := H3.lt))
      refine ret_via (fun wz => Has wz (blk w.heap.size #[(Value.int .i64) 0, (Value.int .i64) 0, (Value.int .i64) 0, (Value.int .i64) 0] 27 * (bookAt p l * R)) ∧ Ext w wz) ⟨H3.set4 _ _ _ _, by (repeat (first | with_reducible assumption | with_reducible exact Ext.refl _ | with_reducible refine Ext.set ?_ _ _ | with_reducible refine Ext.alloc ?_ _ | with_reducible refine Ext.drew ?_ | with_reducible refine Ext.drewN ?_ _ | assumption | exact Ext.refl _ | refine Ext.alloc ?_ _ | refine Ext.set ?_ _ _ | refine Ext.drew ?_ | refine Ext.drewN ?_ _ | refine Ext.below ?_ (by assumption) | refine Ext.trans ?_ (by assumption)))⟩ ?_
      rintro wz ⟨hz, xz⟩
      exact bodyPost_ret (results_ct Try.results17 rfl rfl (load_map hz)) rfl ⟨rfl, hz.right, xz⟩
    · rw [hf] at hB
      rw [if_pos rfl, if_pos rfl, if_pos rfl, hf, hd]
      change Calls _ _ _ w (Res (.tuple #[mpOf (some l[Bk.pos l k]), (Value.int .i64) 0]) _ w)
      have hq := fun i (e : 0 ≤ k → i = Bk.pos l k) => e h0
      have HL := Lib.hid hl.le
      have hhi := hi
      generalize hxq : l[Bk.pos l k] = x at *
      have HX := Lib.hid (show ∀ h, l[Bk.pos l k]'h = x from fun _ => hxq)
      generalize Bk.pos l k = q at *
      clear h hf hl ho hb hd e0 hxq
      go_enter Try.func17, Try.ntmps17
      go_wp2_with (first | (go_at_call 90; refine (HH _).mono ?_; rintro e w2 ⟨rfl, rfl⟩) | (go_at_call 91; refine hB.mono ?_; rintro e w2 ⟨i, _, rfl, hiq, b2⟩; obtain rfl := hq _ hiq; clear hiq hq hB; have H3 := H1.below b2; have x3 := x1.below b2; clear H1 x1; obtain ⟨A, c, h3⟩ := bookAt_open H3.p2; have k0 := h3.cell 0; have kl := h3.lt; obtain ⟨g, rfl, gb, g0, g1, g2, g3⟩ := mrow_at h3.right hi; rw [HX.out hi] at g0 g1 g2 g3; have hbig := mrow_small h3.right; have hw1 : wrap64 ((i : Int) + 1) = ((i + 1 : Nat) : Int) := (by have := HL.out; unfold wrap64; omega)))
      have h4 := h3.new #[(Value.int .i64) x.page, (Value.int .i64) x.size, (Value.int .i64) x.frame, (Value.int .i64) x.rights] 27
      have h5 : Has (w2.alloc (.cells #[(Value.int .i64) x.page, (Value.int .i64) x.size, (Value.int .i64) x.frame, (Value.int .i64) x.rights] 27)) (mrow (.slice (some ⟨g, 0, none⟩) l.length c) l * (blk p #[.slice (some ⟨g, 0, none⟩) l.length c] 155 * (blk w2.heap.size #[(Value.int .i64) x.page, (Value.int .i64) x.size, (Value.int .i64) x.frame, (Value.int .i64) x.rights] 27 * (blk w.heap.size #[(Value.int .i64) 0, (Value.int .i64) 0, (Value.int .i64) 0, (Value.int .i64) 0] 27 * R)))) := h4.eq (by (simp only [star_assoc, star_left_comm, star_comm]))
      have x5 := x3.alloc (.cells #[(Value.int .i64) x.page, (Value.int .i64) x.size, (Value.int .i64) x.frame, (Value.int .i64) x.rights] 27)
      have hD := delete_mp l i (i + 1) g l.length c _ _ (by omega) (by omega) h5
      have hdl : i + (l.length - (i + 1)) = (l.take i ++ l.drop (i + 1)).length := by simp; omega
      rw [hdl] at hD
      clear hdl h4 h5 h3 H3 x3 k0 kl g0 g1 g2 g3 hi hhi HX HL
      generalize l.take i ++ l.drop (i + 1) = l' at *
      go_wp2_with fail
      refine hD.mono ?_; rintro e w6 ⟨rfl, h6, x6⟩
      have x7 := x5.trans x6
      clear x5 x6 hD
      have c0 := h6.right.cell 0
      have cf := h6.right.free 0
      have cl := h6.right.lt
      have hne := h6.right.ne
      have hne' := hne.symm
      have h7 : Has (w6.setCell ⟨p, 0, none⟩ (.slice (some ⟨g, 0, none⟩) l'.length c)) (blk p #[.slice (some ⟨g, 0, none⟩) l'.length c] 155 * _) := h6.p2.set 0 (.slice (some ⟨g, 0, none⟩) l'.length c)
      obtain ⟨m0, m1, m2, m3⟩ := h6.right.right.cells4
      have ml := h6.right.right.lt
      have h8 : Has _ (blk w.heap.size #[(Value.int .i64) 0, (Value.int .i64) 0, (Value.int .i64) 0, (Value.int .i64) 0] 27 * (blk p #[.slice (some ⟨g, 0, none⟩) l'.length c] 155 * (mrow (.slice (some ⟨g, 0, none⟩) l'.length c) l' * (blk w2.heap.size #[(Value.int .i64) x.page, (Value.int .i64) x.size, (Value.int .i64) x.frame, (Value.int .i64) x.rights] 27 * R)))) := h7.eq (by (simp only [star_assoc, star_left_comm, star_comm]))
      have h9 : Has w6 (blk p #[.slice (some ⟨g, 0, none⟩) l.length c] 155 * (blk w.heap.size #[(Value.int .i64) 0, (Value.int .i64) 0, (Value.int .i64) 0, (Value.int .i64) 0] 27 * (mrow (.slice (some ⟨g, 0, none⟩) l'.length c) l' * (blk w2.heap.size #[(Value.int .i64) x.page, (Value.int .i64) x.size, (Value.int .i64) x.frame, (Value.int .i64) x.rights] 27 * R)))) := h6.eq (by (simp only [star_assoc, star_left_comm, star_comm]))
      have hnr := h9.ne
      have hnr' := hnr.symm
      obtain ⟨d0, d1, d2, d3⟩ := h9.right.cells4
      obtain ⟨f0, f1, f2, f3⟩ := h9.right.frees4
      have fl := h9.right.lt
      clear h9
      go_wp2_with fail
      refine ret_via (fun wz => Has wz (blk w.heap.size #[(Value.int .i64) x.page, (Value.int .i64) x.size, (Value.int .i64) x.frame, (Value.int .i64) x.rights] 27 * (blk p #[.slice (some ⟨g, 0, none⟩) l'.length c] 155 * (mrow (.slice (some ⟨g, 0, none⟩) l'.length c) l' * (blk w2.heap.size #[(Value.int .i64) x.page, (Value.int .i64) x.size, (Value.int .i64) x.frame, (Value.int .i64) x.rights] 27 * R)))) ∧ Ext w wz) ⟨h8.set4 _ _ _ _, by (repeat (first | with_reducible assumption | with_reducible exact Ext.refl _ | with_reducible refine Ext.set ?_ _ _ | with_reducible refine Ext.alloc ?_ _ | with_reducible refine Ext.drew ?_ | with_reducible refine Ext.drewN ?_ _ | assumption | exact Ext.refl _ | refine Ext.alloc ?_ _ | refine Ext.set ?_ _ _ | refine Ext.drew ?_ | refine Ext.drewN ?_ _ | refine Ext.below ?_ (by assumption) | refine Ext.trans ?_ (by assumption)))⟩ ?_
      rintro wz ⟨hz, xz⟩
      exact bodyPost_ret (results_ct Try.results17 rfl rfl (load_map hz)) rfl ⟨rfl, bookAt_shut hz.right.drop3, xz⟩
end Go.Proofs.Ytndhgomikpokpaa
