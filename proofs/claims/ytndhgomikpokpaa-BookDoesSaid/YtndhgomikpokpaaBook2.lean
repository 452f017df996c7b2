/- Contracts of package book: Add, Protect, Answer. -/
import Derived.Test.YtndhgomikpokpaaBook
import Derived.Test.YtndhgomikpokpaaBkIns
import Derived.Deep.RegionLaw
import Derived.Deep.AppendLies
namespace Go.Proofs.Ytndhgomikpokpaa
open Go.RowKit
set_option maxRecDepth 100000

set_option maxHeartbeats 2000000 in
theorem addB (p : Nat) (l : List Mp) (m : Mp) (R : HProp) (w : World) (hl : Bk.Ok l) (hm : i64 m.page) (h : Has w (bookAt p l * R)) :
    Calls Try.prog 18 #[.pointer (some ⟨p, 0, none⟩), .agg #[(Value.int .i64) m.page, (Value.int .i64) m.size, (Value.int .i64) m.frame, (Value.int .i64) m.rights]] w (Res ((Value.int .i64) (Bk.addC l m)) (bookAt p (Bk.add l m) * R) w) := by
  have H1 := h.new #[(Value.int .i64) m.page, (Value.int .i64) m.size, (Value.int .i64) m.frame, (Value.int .i64) m.rights] 27
  have x1 := (Ext.refl w).alloc (.cells #[(Value.int .i64) m.page, (Value.int .i64) m.size, (Value.int .i64) m.frame, (Value.int .i64) m.rights] 27)
  have HC := check_any m
  obtain ⟨c0, c1, c2, c3⟩ := H1.cells4
  by_cases hc : check m = 0
  · rw [hc] at HC
    have hmo := mapOk_of hc
    have hp0 := hmo.p0
    obtain ⟨hy1, hy2⟩ : (Bk.addC l m = if Bk.bad l m = true then 4 else 0) ∧ (Bk.add l m = if Bk.bad l m = true then l else l.take (Bk.pos l m.page) ++ m :: l.drop (Bk.pos l m.page)) := by
      cases hb : Bk.bad l m with
      | true => exact Bk.addC_bad hc hb
      | false => exact Bk.addC_ok hc hb
    rw [hy1, hy2]
    clear hy1 hy2 h
    have hle := hl.le
    have hfb : (Bk.find l m.page).isSome = true → Bk.bad l m = true := Bk.bad_find
    have hba := Bk.bad_at hl hmo
    have hli : ∀ x ∈ l, i64 x.page := fun x hx => by
      have := (hl.chk x hx).p0; have := (hl.chk x hx).p1; have := (hl.chk x hx).sp
      exact ⟨by omega, by omega⟩
    have HL := Lib.hid hl
    clear hl
    go_enter Try.func18, Try.ntmps18
    go_upto_region 4 with (go_at_call 93; refine (HC _).mono ?_; rintro e w2 ⟨rfl, b2⟩)
    have h2 := H1.below b2
    have x2 := x1.below b2
    clear H1 x1 b2 c0 c1 c2 c3 HC
    obtain ⟨c0, c1, c2, c3⟩ := h2.cells4
    have cl := h2.lt
    have hB := at_any l HL.out m.page hm p _ _ h2.p2
    go_upto_region 5 with (refine hB.mono ?_; rintro e w3 ⟨i, hil, rfl, hip, b3⟩)
    have hip := hip hp0
    have h3 := h2.below b3
    have x3 := x2.below b3
    clear h2 x2 b3 c0 c1 c2 c3 cl hB
    obtain ⟨A, c, h4⟩ := bookAt_open h3.p2
    obtain ⟨c0, c1, c2, c3⟩ := h3.cells4
    have e0 := h4.cell 0
    rw [← hip] at hba
    generalize Bk.bad l m = bd at *
    generalize Bk.pos l m.page = q at *
    subst hip
    generalize (Bk.find l m.page).isSome = fs at *
    go_cut [40] (fun b40 wx => b40 = Value.bool bd ∧ Below w3.heap.size w3 wx)
    case first =>
      have v0 := via_cell c0
      have v1 := via_cell c1
      have v2 := via_cell c2
      have v3 := via_cell c3
      have ve := via_cell e0
      clear c0 c1 c2 c3 e0
      cases fs with
      | true =>
        have hbt := hfb rfl
        subst hbt
        clear hba hfb
        refine wp_region_via (by kernel_rfl) (by kernel_rfl) ?_
        repeat (first | go_big_quiet_step (fail) | quiet_step (fail))
        refine wpQuiet_nil ?_
        intro _ hw'
        obtain ⟨uq, hw''⟩ := hw'
        subst hw''
        go_wp2_with fail
        go_meet
        case rel => exact ⟨rfl, via_below _ _⟩
      | false =>
        clear hfb
        by_cases hlt : i < l.length
        · rw [dif_pos hlt] at hba
          obtain ⟨g, rfl, gb, g0, g1, g2, g3⟩ := mrow_at h4.right hlt
          have HM := Lib.hid (fun W => meet_any m l[i] W hm (hli _ (List.getElem_mem hlt)))
          rw [← hba] at HM
          have hdg : decide (i < l.length) = true := decide_eq_true (by omega)
          have u0 := via_cell g0
          have u1 := via_cell g1
          have u2 := via_cell g2
          have u3 := via_cell g3
          clear g0 g1 g2 g3 hba hli hle
          generalize l[i] = x at *
          refine wp_region_via (by kernel_rfl) (by kernel_rfl) ?_
          repeat (first | go_big_quiet_step ((go_at_call 94; exact Pure.via (HM.out _))) | quiet_step ((go_at_call 94; exact Pure.via (HM.out _))))
          refine wpQuiet_nil ?_
          intro _ hw'
          obtain ⟨uq, hw''⟩ := hw'
          subst hw''
          go_wp2_with fail
          go_meet
          case rel => exact ⟨rfl, via_below _ _⟩
        · rw [dif_neg hlt] at hba
          subst hba
          have hdg : decide (i < l.length) = false := decide_eq_false (by omega)
          clear hli hle
          refine wp_region_via (by kernel_rfl) (by kernel_rfl) ?_
          repeat (first | go_big_quiet_step (fail) | quiet_step (fail))
          refine wpQuiet_nil ?_
          intro _ hw'
          obtain ⟨uq, hw''⟩ := hw'
          subst hw''
          go_wp2_with fail
          go_meet
          case rel => exact ⟨rfl, via_below _ _⟩
    case rest =>
      obtain ⟨rfl, b3⟩ := hcut
      have h5 := h3.below b3
      have x5 := x3.below b3
      clear hfb hba hli
      clear h3 x3 b3 h4 e0 c0 c1 c2 c3
      cases bd with
      | true =>
        go_wp2_with fail
        go_ret
        exact ⟨rfl, h5.right, x5⟩
      | false =>
        obtain ⟨A', c', h6⟩ := bookAt_open h5.p2
        have e0 := h6.cell 0
        have ef := h6.free 0
        have el := h6.lt
        obtain ⟨c0, c1, c2, c3⟩ := h5.cells4
        have cl := h5.lt
        have h7 : Has ((wc.alloc (.cells #[(Value.int .i64) m.page, (Value.int .i64) m.size, (Value.int .i64) m.frame, (Value.int .i64) m.rights] 27)).drew) (mrow (.slice A' l.length c') l * (blk wc.heap.size #[(Value.int .i64) m.page, (Value.int .i64) m.size, (Value.int .i64) m.frame, (Value.int .i64) m.rights] 27 * (blk p #[.slice A' l.length c'] 155 * (blk w.heap.size #[(Value.int .i64) m.page, (Value.int .i64) m.size, (Value.int .i64) m.frame, (Value.int .i64) m.rights] 27 * R)))) := (h6.new #[(Value.int .i64) m.page, (Value.int .i64) m.size, (Value.int .i64) m.frame, (Value.int .i64) m.rights] 27).drew.eq (by (simp only [star_assoc, star_left_comm, star_comm]))
        have x7 : Ext w ((wc.alloc (.cells #[(Value.int .i64) m.page, (Value.int .i64) m.size, (Value.int .i64) m.frame, (Value.int .i64) m.rights] 27)).drew) := (x5.alloc _).drew
        have HI := Lib.hid (insert_mp l m l.length c' wc.heap.size i A' _ _ (by omega) hil h7)
        clear h5 h6 x5 h7
        generalize l.take i ++ m :: l.drop i = l' at *
        go_wp2_with fail
        go_region_law (go_simp; go_at_call 95; refine HI.out.mono ?_; rintro e w6 ⟨A2, c2, rfl, h8, x8⟩; have k0 := h8.right.cell 0; have kf := h8.right.free 0; have kl := h8.right.lt)
        all_goals
          go_wp2_with fail
          go_ret
          exact ⟨rfl, bookAt_shut (h8.p2.set 0 (.slice A2 l'.length c2)).drop3, (x7.trans x8).set _ _⟩
  · have hn : (check m != 0) = true := by simpa using hc
    obtain ⟨hy1, hy2⟩ := Bk.addC_check (l := l) hc
    rw [hy1, hy2]
    clear hy1 hy2 hc
    generalize check m = c at *
    go_enter Try.func18, Try.ntmps18
    go_wp2_with (refine (HC _).mono ?_; rintro e w2 ⟨rfl, b2⟩)
    go_ret
    exact ⟨rfl, (H1.below b2).right, x1.below b2⟩

theorem mrow_rights {w : World} {R : HProp} {g c : Nat} {l : List Mp} (i : Nat) (r : Int) (h : Has w (mrow (.slice (some ⟨g, 0, none⟩) l.length c) l * R)) (hi : i < l.length) :
    Has (w.setCell ⟨g, i * 4 + 3, none⟩ ((Value.int .i64) r)) (mrow (.slice (some ⟨g, 0, none⟩) l.length c) (l.take i ++ { l[i] with rights := r } :: l.drop (i + 1)) * R) := by
  have h1 := Has.rowSet (e := 27) (size := 4) h (i := i * 4 + 3) (by omega) ((Value.int .i64) r)
  have hz : (l.take i ++ { l[i] with rights := r } :: l.drop (i + 1)).length = l.length := by simp; omega
  have he : (mcells l).set (i * 4 + 3) ((Value.int .i64) r) = mcells (l.take i ++ { l[i] with rights := r } :: l.drop (i + 1)) := by
    have hs : l = l.take i ++ l[i] :: l.drop (i + 1) := by rw [← List.drop_eq_getElem_cons hi, List.take_append_drop]
    have e1 : mcells l = mcells (l.take i) ++ (l[i].cells ++ mcells (l.drop (i + 1))) := by
      conv => lhs; rw [hs]
      rw [mcells_append]; rfl
    have e2 : (mcells (l.take i)).length = i * 4 := by rw [mcells_len, List.length_take]; omega
    rw [e1, mcells_append, List.set_append_right _ _ (by omega), e2, show i * 4 + 3 - i * 4 = 3 by omega]
    rfl
  unfold mrow
  rw [hz, ← he]
  exact h1
end Go.Proofs.Ytndhgomikpokpaa
