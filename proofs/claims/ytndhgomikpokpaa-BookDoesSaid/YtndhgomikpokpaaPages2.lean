/- Contracts of the document's book: Drop, Answer. -/
import Derived.Test.YtndhgomikpokpaaPages
import Derived.StillTailTactics
namespace Go.Proofs.Ytndhgomikpokpaa
open Go.RowKit
set_option maxRecDepth 100000

/-- The first i mappings, without the k-th. -/
def Bk.skip (l : List Mp) (k i : Nat) : List Mp := (l.take i).eraseIdx k
theorem Bk.skip_one {l : List Mp} {k i : Nat} (hi : i < l.length) (hk : i ≠ k) : Bk.skip l k (i + 1) = Bk.skip l k i ++ [l[i]] := by
  unfold Bk.skip
  rw [List.take_succ_eq_append_getElem hi]
  rcases Nat.lt_or_gt_of_ne hk with h | h
  · rw [List.eraseIdx_of_length_le (by simp; omega), List.eraseIdx_of_length_le (by simp; omega)]
  · rw [List.eraseIdx_append_of_lt_length (by simp; omega)]
theorem Bk.skip_it {l : List Mp} {i : Nat} (hi : i < l.length) : Bk.skip l i (i + 1) = Bk.skip l i i := by
  unfold Bk.skip
  have e0 : (l.take i).eraseIdx i = l.take i := List.eraseIdx_of_length_le (by simp; omega)
  have e1 : i - (l.take i).length = 0 := by simp; omega
  rw [List.take_succ_eq_append_getElem hi, List.eraseIdx_append_of_length_le (by simp; omega), e0, e1]
  simp
theorem Bk.skip_end (l : List Mp) (k : Nat) : Bk.skip l k l.length = l.take k ++ l.drop (k + 1) := by
  unfold Bk.skip
  rw [List.take_length, List.eraseIdx_eq_take_drop_succ]
set_option maxHeartbeats 4000000 in
theorem dropP (q : Nat) (l : List Mp) (k : Int) (R : HProp) (w : World) (hl : Bk.Ok l) (hk : i64 k) (h : Has w (pagesAt q l * R)) :
    Calls Try.prog 40 #[.pointer (some ⟨q, 0, none⟩), .int .i64 k] w (Res (.tuple #[mpOf (Bk.dropR l k), (Value.int .i64) (Bk.dropC l k)]) (pagesAt q (Bk.dropL l k) * R) w) := by
  have H1 := h.new #[(Value.int .i64) 0, (Value.int .i64) 0, (Value.int .i64) 0, (Value.int .i64) 0] 27
  have x1 := (Ext.refl w).alloc (.cells #[(Value.int .i64) 0, (Value.int .i64) 0, (Value.int .i64) 0, (Value.int .i64) 0] 27)
  unfold Bk.dropR Bk.dropC Bk.dropL
  cases hb : hasB k with
  | false =>
    have hr : k < 0 ∨ 4096 ≤ k := by
      unfold hasB at hb
      rcases Int.lt_or_le k 0 with h0 | h0
      · exact .inl h0
      · rw [decide_eq_true h0] at hb
        simp at hb
        exact .inr hb
    obtain ⟨d0, d1, d2, d3⟩ := H1.cells4
    obtain ⟨f0, f1, f2, f3⟩ := H1.frees4
    have fl := H1.lt
    clear hb
    rcases hr with h0 | h0
    · have hd : decide (k < 0) = true := decide_eq_true h0
      go_enter Try.func40, Try.ntmps40
      go_wp2_with fail
      refine ret_via (fun wz => Has wz (blk w.heap.size #[(Value.int .i64) 0, (Value.int .i64) 0, (Value.int .i64) 0, (Value.int .i64) 0] 27 * (pagesAt q l * R)) ∧ Ext w wz) ⟨H1, by (repeat (first | with_reducible assumption | with_reducible exact Ext.refl _ | with_reducible refine Ext.set ?_ _ _ | with_reducible refine Ext.alloc ?_ _ | with_reducible refine Ext.drew ?_ | with_reducible refine Ext.drewN ?_ _ | assumption | exact Ext.refl _ | refine Ext.alloc ?_ _ | refine Ext.set ?_ _ _ | refine Ext.drew ?_ | refine Ext.drewN ?_ _ | refine Ext.below ?_ (by assumption) | refine Ext.trans ?_ (by assumption)))⟩ ?_
      rintro wz ⟨hz, xz⟩
      exact bodyPost_ret (results_ct Try.results40 rfl rfl (load_map hz)) rfl ⟨rfl, hz.right, xz⟩
    · have hd : decide (k < 0) = false := decide_eq_false (by omega)
      have hd2 : decide (4096 ≤ k) = true := decide_eq_true h0
      go_enter Try.func40, Try.ntmps40
      go_wp2_with fail
      refine ret_via (fun wz => Has wz (blk w.heap.size #[(Value.int .i64) 0, (Value.int .i64) 0, (Value.int .i64) 0, (Value.int .i64) 0] 27 * (pagesAt q l * R)) ∧ Ext w wz) ⟨H1, by (repeat (first | with_reducible assumption | with_reducible exact Ext.refl _ | with_reducible refine Ext.set ?_ _ _ | with_reducible refine Ext.alloc ?_ _ | with_reducible refine Ext.drew ?_ | with_reducible refine Ext.drewN ?_ _ | assumption | exact Ext.refl _ | refine Ext.alloc ?_ _ | refine Ext.set ?_ _ _ | refine Ext.drew ?_ | refine Ext.drewN ?_ _ | refine Ext.below ?_ (by assumption) | refine Ext.trans ?_ (by assumption)))⟩ ?_
      rintro wz ⟨hz, xz⟩
      exact bodyPost_ret (results_ct Try.results40 rfl rfl (load_map hz)) rfl ⟨rfl, hz.right, xz⟩
  | true =>
    have hr : 0 ≤ k ∧ k < 4096 := by
      unfold hasB at hb
      simpa using hb
    obtain ⟨k0, k4⟩ := hr
    have hd : decide (k < 0) = false := decide_eq_false (by omega)
    have hd2 : decide (4096 ≤ k) = false := decide_eq_false (by omega)
    have hF := findP q l k _ _ hl hk H1.p2
    rcases Bk.place hl k with ⟨hf, hdl, _⟩ | ⟨hi, ho, hf, h0, _, hdl, _⟩
    · have hx : Bk.idx l k = -1 := by unfold Bk.idx; rw [hf]; rfl
      rw [if_pos rfl, if_pos rfl, if_pos rfl, hf, hdl]
      rw [hx] at hF
      clear h hf hl hdl hb hx
      go_enter Try.func40, Try.ntmps40
      go_wp2_with (refine hF.mono ?_; rintro e w2 ⟨rfl, b2⟩; have H3 := H1.below b2; have x3 := x1.below b2; obtain ⟨d0, d1, d2, d3⟩ := H3.cells4; obtain ⟨f0, f1, f2, f3⟩ := H3.frees4; have fl := H3.lt)
      refine ret_via (fun wz => Has wz (blk w.heap.size #[(Value.int .i64) 0, (Value.int .i64) 0, (Value.int .i64) 0, (Value.int .i64) 0] 27 * (pagesAt q l * R)) ∧ Ext w wz) ⟨H3.set4 _ _ _ _, by (repeat (first | with_reducible assumption | with_reducible exact Ext.refl _ | with_reducible refine Ext.set ?_ _ _ | with_reducible refine Ext.alloc ?_ _ | with_reducible refine Ext.drew ?_ | with_reducible refine Ext.drewN ?_ _ | assumption | exact Ext.refl _ | refine Ext.alloc ?_ _ | refine Ext.set ?_ _ _ | refine Ext.drew ?_ | refine Ext.drewN ?_ _ | refine Ext.below ?_ (by assumption) | refine Ext.trans ?_ (by assumption)))⟩ ?_
      rintro wz ⟨hz, xz⟩
      exact bodyPost_ret (results_ct Try.results40 rfl rfl (load_map hz)) rfl ⟨rfl, hz.right, xz⟩
    · have hx : Bk.idx l k = Bk.pos l k := by unfold Bk.idx; rw [hf]; rfl
      rw [if_pos rfl, if_pos rfl, if_pos rfl, hf, hdl]
      rw [hx] at hF
      change Calls _ _ _ w (Res (.tuple #[mpOf (some l[Bk.pos l k]), (Value.int .i64) 0]) _ w)
      rw [← Bk.skip_end]
      have hle := hl.le
      generalize Bk.pos l k = p at *
      clear h hf hl ho hb hdl hx h0
      go_enter Try.func40, Try.ntmps40
      go_wp2_with (refine hF.mono ?_; rintro e w2 ⟨rfl, b2⟩)
      have h2 := H1.below b2
      have x2 := x1.below b2
      clear H1 x1 hF b2
      have h3 : Has w2 (mrow (.slice none ([] : List Mp).length 0) [] * (blk w.heap.size #[(Value.int .i64) 0, (Value.int .i64) 0, (Value.int .i64) 0, (Value.int .i64) 0] 27 * (pagesAt q l * R))) := Has.rowNil h2
      have h4 : Has w2 (pagesAt q l * (mrow (.slice none ([] : List Mp).length 0) [] * (blk w.heap.size #[(Value.int .i64) 0, (Value.int .i64) 0, (Value.int .i64) 0, (Value.int .i64) 0] 27 * R))) := h3.eq (by (simp only [star_assoc, star_left_comm, star_comm]))
      clear h2 h3
      go_loopw [7, 8] (fun s7 s8 wr => ∃ (i : Nat) (A' : Option Addr) (c' : Nat), i ≤ l.length ∧ s8 = (Value.int .i64) i ∧ s7 = .slice A' (Bk.skip l p i).length c' ∧
          Has wr (pagesAt q l * (mrow (.slice A' (Bk.skip l p i).length c') (Bk.skip l p i) * (blk w.heap.size #[(Value.int .i64) 0, (Value.int .i64) 0, (Value.int .i64) 0, (Value.int .i64) 0] 27 * R))) ∧ Ext w wr) (fun _ s8 _ => l.length - (intOf s8).toNat)
      case atStart => exact ⟨0, none, 0, Nat.zero_le _, rfl, rfl, h4, x2⟩
      case round =>
        clear h4 x2
        obtain ⟨i, A', c', hi2, rfl, rfl, hr, hx⟩ := hrel
        have hll : (Bk.skip l p i).length ≤ i := by unfold Bk.skip; have := List.length_eraseIdx_le (l.take i) p; simp at this; omega
        obtain ⟨A, c, ho⟩ := pagesAt_open hr
        clear hr
        have e0 := ho.cell 0
        have el := ho.lt
        by_cases hlt : i < l.length
        · obtain ⟨b, rfl, hb, d0, d1, d2, d3⟩ := mrow_at ho.right hlt
          by_cases hip : i = p
          · subst hip
            have HE := Lib.hid (Bk.skip_it hlt)
            generalize l[i] = x at *
            generalize Bk.skip l i i = out at *
            have hne : ((i : Int) != i) = false := by simp
            go_wp2_with fail
            go_roundw
            case rel => exact ⟨i + 1, A', c', by omega, by go_num, by rw [HE.out], by rw [HE.out]; exact pagesAt_shut ho, hx⟩
            case measure => simp [intOf]; omega
          · have HE := Lib.hid (Bk.skip_one (k := p) hlt hip)
            generalize l[i] = x at *
            generalize Bk.skip l p i = out at *
            have hne : ((i : Int) != p) = true := by simp; omega
            have hr2 : Has wr (row 27 4 (.slice A' out.length c') out.length (mcells out) * (blk q #[.slice (some ⟨b, 0, none⟩) l.length c] 84 * (mrow (.slice (some ⟨b, 0, none⟩) l.length c) l * (blk w.heap.size #[(Value.int .i64) 0, (Value.int .i64) 0, (Value.int .i64) 0, (Value.int .i64) 0] 27 * R)))) := ho.eq (by unfold mrow; (simp only [star_assoc, star_left_comm, star_comm]))
            go_wp2_with (at_builtin; refine wpList_append_has rfl _ _ 35 rfl Try.underlying35 elemMp _ _ _ rfl (hr2.alloc (.cells #[(Value.int .i64) x.page, (Value.int .i64) x.size, (Value.int .i64) x.frame, (Value.int .i64) x.rights] 27)) ⟨wr.heap.size, 0, none⟩ 1 1 x.cells rfl rfl (news_many wr x.cells 27) (oneMp x) ?_ ?_ ?_)
            rotate_left
            rotate_left
            · intro v3 w3 h3 x3
              obtain ⟨A3, c3, rfl, g3⟩ := mrow_push h3
              clear h3
              go_wp2_with fail
              go_roundw
              case rel => exact ⟨i + 1, A3, c3, by omega, by go_num, by rw [HE.out], by rw [HE.out]; exact (pagesAt_shut (A := some ⟨b, 0, none⟩) (c := c) (g3.eq (by (simp only [star_assoc, star_left_comm, star_comm])))), (hx.alloc _).trans x3⟩
              case measure => simp [intOf]; omega
            · unfold maxLen; omega
            · omega
        · have hil : i = l.length := by omega
          subst hil
          obtain ⟨b, rfl, hb, d0, d1, d2, d3⟩ := mrow_at ho.right hi
          generalize hxo : l[p] = x at *
          generalize hou : Bk.skip l p l.length = out at *
          have HX := Lib.hid hxo
          have HO := Lib.hid hou
          clear hxo hou
          have hr2 : Has wr (blk q #[.slice (some ⟨b, 0, none⟩) l.length c] 84 * (blk w.heap.size #[(Value.int .i64) 0, (Value.int .i64) 0, (Value.int .i64) 0, (Value.int .i64) 0] 27 * (mrow (.slice A' out.length c') out * (R * mrow (.slice (some ⟨b, 0, none⟩) l.length c) l)))) := ho.eq (by (simp only [star_assoc, star_left_comm, star_comm]))
          clear ho
          have ef := hr2.free 0
          have hne := hr2.ne
          have hne' := hne.symm
          have hm5 : Has (wr.setCell ⟨q, 0, none⟩ (.slice A' out.length c')) (blk q #[.slice A' out.length c'] 84 * _) := hr2.set 0 (.slice A' out.length c')
          obtain ⟨r0, r1, r2, r3⟩ := hr2.right.cells4
          obtain ⟨f0, f1, f2, f3⟩ := hr2.right.frees4
          have rl := hr2.right.lt
          go_wp2_with fail
          refine ret_via (fun wz => Has wz (blk w.heap.size #[(Value.int .i64) x.page, (Value.int .i64) x.size, (Value.int .i64) x.frame, (Value.int .i64) x.rights] 27 * (blk q #[.slice A' out.length c'] 84 * (mrow (.slice A' out.length c') out * (R * mrow (.slice (some ⟨b, 0, none⟩) l.length c) l)))) ∧ Ext w wz) ⟨(hm5.p2.set4 _ _ _ _).alloc _, by (repeat (first | with_reducible assumption | with_reducible exact Ext.refl _ | with_reducible refine Ext.set ?_ _ _ | with_reducible refine Ext.alloc ?_ _ | with_reducible refine Ext.drew ?_ | with_reducible refine Ext.drewN ?_ _ | assumption | exact Ext.refl _ | refine Ext.alloc ?_ _ | refine Ext.set ?_ _ _ | refine Ext.drew ?_ | refine Ext.drewN ?_ _ | refine Ext.below ?_ (by assumption) | refine Ext.trans ?_ (by assumption)))⟩ ?_
          rintro wz ⟨hz, xz⟩
          exact bodyPost_ret (results_ct Try.results40 rfl rfl (load_map hz)) rfl (by have e1 := HX.out; have e2 := HO.out; subst e1; subst e2; exact ⟨rfl, (pagesAt_shut hz.right).a2.left, xz⟩)
/-- Answer. -/
theorem answerP (q : Nat) (l : List Mp) (a : Ac) (R : HProp) (w : World) (hl : Bk.Ok l) (ha : i64 a.page) (h : Has w (pagesAt q l * R)) :
    Calls Try.prog 44 #[.pointer (some ⟨q, 0, none⟩), .agg #[(Value.int .i64) a.page, (Value.int .i64) a.kind, Value.bool a.user]] w (Pure (Bk.ans l a).val w) := by
  obtain ⟨A, c, h0⟩ := pagesAt_open h
  have h1 := (has_old w).new #[(Value.int .i64) a.page, (Value.int .i64) a.kind, Value.bool a.user] 29
  have H2 := h1.new #[(Value.int .i64) 0, (Value.int .i64) 0, (Value.int .i64) 0] 49
  have G2 := (h0.new #[(Value.int .i64) a.page, (Value.int .i64) a.kind, Value.bool a.user] 29).new #[(Value.int .i64) 0, (Value.int .i64) 0, (Value.int .i64) 0] 49
  have x2 := ((Ext.refl w).alloc (.cells #[(Value.int .i64) a.page, (Value.int .i64) a.kind, Value.bool a.user] 29)).alloc (.cells #[(Value.int .i64) 0, (Value.int .i64) 0, (Value.int .i64) 0] 49)
  simp only [World.size_alloc] at H2 G2
  have G3 : Has _ (blk q #[.slice A l.length c] 84 * (mrow (.slice A l.length c) l * (blk (w.heap.size + 1) #[(Value.int .i64) 0, (Value.int .i64) 0, (Value.int .i64) 0] 49 * (blk w.heap.size #[(Value.int .i64) a.page, (Value.int .i64) a.kind, Value.bool a.user] 29 * R)))) := G2.eq (by (simp only [star_assoc, star_left_comm, star_comm]))
  have hF := findP q l a.page _ _ hl ha (pagesAt_shut G3)
  have c0 := G2.right.cell 0
  rcases Bk.place hl a.page with ⟨hf, _⟩ | ⟨hi, ho, hf, h0, _⟩
  · have hx : Bk.idx l a.page = -1 := by unfold Bk.idx; rw [hf]; rfl
    have hy := Lib.hid (show Bk.ans l a = ⟨1, 0, 0⟩ by unfold Bk.ans; rw [hf])
    rw [hx] at hF
    clear h h0 h1 G3 G2 hf hl hx
    go_enter Try.func44, Try.ntmps44
    go_wp2_with (refine hF.mono ?_; rintro e w3 ⟨rfl, b3⟩; have H3 := H2.below b3; have x3 := x2.below b3; obtain ⟨d0, d1, d2⟩ := H3.cells3; obtain ⟨f0, f1, f2⟩ := H3.frees3; have fl := H3.lt)
    refine ret_via (fun wz => Has wz (blk (w.heap.size + 1) #[(Value.int .i64) 1, (Value.int .i64) 0, (Value.int .i64) 0] 49 * (blk w.heap.size #[(Value.int .i64) a.page, (Value.int .i64) a.kind, Value.bool a.user] 29 * old w w.heap.size)) ∧ Ext w wz) ⟨((H3.set 0 ((Value.int .i64) 1)).set 1 ((Value.int .i64) 0)).set 2 ((Value.int .i64) 0), by (repeat (first | with_reducible assumption | with_reducible exact Ext.refl _ | with_reducible refine Ext.set ?_ _ _ | with_reducible refine Ext.alloc ?_ _ | with_reducible refine Ext.drew ?_ | with_reducible refine Ext.drewN ?_ _ | assumption | exact Ext.refl _ | refine Ext.alloc ?_ _ | refine Ext.set ?_ _ _ | refine Ext.drew ?_ | refine Ext.drewN ?_ _ | refine Ext.below ?_ (by assumption) | refine Ext.trans ?_ (by assumption)))⟩ ?_
    rintro wz ⟨hz, xz⟩
    exact bodyPost_ret (results_c Try.results44 rfl (load_answer hz)) rfl ⟨by rw [hy.out]; rfl, below_of1 hz.right.right xz⟩
  · have hx : Bk.idx l a.page = Bk.pos l a.page := by unfold Bk.idx; rw [hf]; rfl
    have hy := Lib.hid (show Bk.ans l a = answer l[Bk.pos l a.page] a by unfold Bk.ans; rw [hf])
    rw [hx] at hF
    have hle := hl.le
    generalize Bk.pos l a.page = p at *
    clear h h0 h1 hf hl hx ho G2
    go_enter Try.func44, Try.ntmps44
    go_wp2_with (refine hF.mono ?_; rintro e w3 ⟨rfl, b3⟩)
    have H3 := H2.below b3
    have x3 := x2.below b3
    have g3 := G3.below b3
    clear c0
    have c0 := g3.cell 0
    have cl := g3.lt
    obtain ⟨b, rfl, hb, d0, d1, d2, d3⟩ := mrow_at g3.right hi
    obtain ⟨a0, a1, a2⟩ := g3.right.right.right.cells3
    have al := g3.right.right.right.lt
    clear g3 G3 H2 x2 b3 hF
    have HX := Lib.hid (show l[p] = l[p] from rfl)
    generalize hxo : l[p] = x at *
    clear HX
    have HX := Lib.hid hxo
    clear hxo
    go_wp2_with fail
    go_still_tail 8, (by kernel_rfl)
    repeat still_step
    try refine wpStill_nil ?_
    have H4 := H3.drew
    have x4 := x3.drew
    have HA := Lib.hid (fun W => answerOf_any x a.page a.kind a.user W)
    have hy2 := hy
    clear hy
    generalize answer x ⟨a.page, a.kind, a.user⟩ = r at *
    go_wp2_with (refine (HA.out _).mono ?_; rintro e w5 ⟨rfl, b5⟩; have H5 := H4.below b5; have x5 := x4.below b5; obtain ⟨r0, r1, r2⟩ := H5.cells3; obtain ⟨f0, f1, f2⟩ := H5.frees3; have fl := H5.lt)
    refine ret_via (fun wz => Has wz (blk (w.heap.size + 1) #[(Value.int .i64) r.fin, (Value.int .i64) r.frame, (Value.int .i64) r.rights] 49 * (blk w.heap.size #[(Value.int .i64) a.page, (Value.int .i64) a.kind, Value.bool a.user] 29 * old w w.heap.size)) ∧ Ext w wz) ⟨((H5.set 0 ((Value.int .i64) r.fin)).set 1 ((Value.int .i64) r.frame)).set 2 ((Value.int .i64) r.rights), by (repeat (first | with_reducible assumption | with_reducible exact Ext.refl _ | with_reducible refine Ext.set ?_ _ _ | with_reducible refine Ext.alloc ?_ _ | with_reducible refine Ext.drew ?_ | with_reducible refine Ext.drewN ?_ _ | assumption | exact Ext.refl _ | refine Ext.alloc ?_ _ | refine Ext.set ?_ _ _ | refine Ext.drew ?_ | refine Ext.drewN ?_ _ | refine Ext.below ?_ (by assumption) | refine Ext.trans ?_ (by assumption)))⟩ ?_
    rintro wz ⟨hz, xz⟩
    exact bodyPost_ret (results_c Try.results44 rfl (load_answer hz)) rfl ⟨by rw [hy2.out]; rfl, below_of1 hz.right.right xz⟩
end Go.Proofs.Ytndhgomikpokpaa
