/- Contracts of the document's book: Find, Copy, Add, Drop, Protect, Answer. -/
import Derived.Test.YtndhgomikpokpaaMpRow
import Derived.Test.YtndhgomikpokpaaBookM3
import Derived.Test.YtndhgomikpokpaaRefPage2
import Derived.Test.YtndhgomikpokpaaRet
import Derived.Test.YtndhgomikpokpaaFrm
import Derived.Test.YtndhgomikpokpaaRowsO
namespace Go.Proofs.Ytndhgomikpokpaa
open Go.RowKit
set_option maxRecDepth 100000

/-- The document's book at block q. -/
def pagesAt (q : Nat) (l : List Mp) : HProp := ex fun A => ex fun c => blk q #[.slice A l.length c] 84 * mrow (.slice A l.length c) l
theorem pagesAt_open {q : Nat} {l : List Mp} {P : HProp} {w : World} (h : Has w (pagesAt q l * P)) : ∃ A c, Has w (blk q #[.slice A l.length c] 84 * (mrow (.slice A l.length c) l * P)) := by
  unfold pagesAt at h
  obtain ⟨A, h⟩ := has_ex_star.1 h
  obtain ⟨c, h⟩ := has_ex_star.1 h
  exact ⟨A, c, h.a1⟩
theorem pagesAt_shut {q c : Nat} {A : Option Addr} {l : List Mp} {P : HProp} {w : World} (h : Has w (blk q #[.slice A l.length c] 84 * (mrow (.slice A l.length c) l * P))) : Has w (pagesAt q l * P) := by
  unfold pagesAt
  exact has_ex_star.2 ⟨A, has_ex_star.2 ⟨c, h.a2⟩⟩
/-- Where the mapping of a page stands; -1: there is none. -/
def Bk.idx (l : List Mp) (p : Int) : Int := if (Bk.find l p).isSome = true then (Bk.pos l p : Int) else -1
theorem Bk.idx_hit {l : List Mp} (hl : Bk.Ok l) {p : Int} {i : Nat} (hi : i < l.length) (ho : over l[i] p = true) : Bk.idx l p = i := by
  obtain ⟨e1, e2⟩ := Bk.over_at hl hi ho
  unfold Bk.idx
  rw [e2]
  simp
  omega
theorem Bk.idx_miss {l : List Mp} {p : Int} (h : ∀ j (hj : j < l.length), over l[j] p = false) : Bk.idx l p = -1 := by
  have : Bk.find l p = none := List.find?_eq_none.2 fun x hx => by
    obtain ⟨j, hj, rfl⟩ := List.getElem_of_mem hx
    rw [h j hj]
    simp
  unfold Bk.idx
  rw [this]
  rfl
theorem MapOk.i64 {m : Mp} (h : MapOk m) : Go.Proofs.Ytndhgomikpokpaa.i64 m.page := ⟨by have := h.p0; omega, by have := h.p1; have := h.sp; omega⟩

theorem findP (q : Nat) (l : List Mp) (k : Int) (R : HProp) (w : World) (hl : Bk.Ok l) (hk : i64 k) (h : Has w (pagesAt q l * R)) :
    Calls Try.prog 42 #[.pointer (some ⟨q, 0, none⟩), .int .i64 k] w (Pure ((Value.int .i64) (Bk.idx l k)) w) := by
  obtain ⟨A, c, h⟩ := pagesAt_open h
  have hbig := hl.le
  have hli : ∀ x ∈ l, i64 x.page := fun x hx => (hl.chk x hx).i64
  have HL := Lib.hid hl
  clear hl
  have c0 := h.cell 0
  go_enter Try.func42, Try.ntmps42
  go_wp2_with fail
  go_loopw [5] (fun s5 wr => ∃ i : Nat, i ≤ l.length ∧ s5 = (Value.int .i64) i ∧ Below w.heap.size w wr ∧ Hid (∀ j (hj : j < l.length), j < i → over l[j] k = false)) (fun s5 _ => l.length - (intOf s5).toNat)
  case atStart => exact ⟨0, Nat.zero_le _, rfl, Below.refl _ _, Lib.hid fun j _ h => absurd h (Nat.not_lt_zero _)⟩
  case round =>
    obtain ⟨i, hi, rfl, BW, HA⟩ := hrel
    have h' := h.below BW
    clear c0
    have c0 := h'.cell 0
    have cl := h'.lt
    have BW' := Lib.hid BW
    clear BW
    by_cases hlt : i < l.length
    · obtain ⟨b, rfl, hb, d0, d1, d2, d3⟩ := mrow_at h'.right hlt
      have HC := Lib.hid (refHas_any l[i] k wr (hli _ (List.getElem_mem hlt)) hk)
      generalize hx : l[i] = x at d0 d1 d2 d3 HC
      have HX := Lib.hid hx
      clear hx h' h
      cases hq : over x k with
      | true =>
        rw [hq] at HC
        go_wp2_with (refine HC.out.mono ?_; rintro e w' ⟨rfl, hb'⟩)
        go_ret
        exact ⟨by rw [Bk.idx_hit HL.out hlt (by rw [HX.out]; exact hq)]; rfl, BW'.out.trans (hb'.mono BW'.out.size)⟩
      | false =>
        rw [hq] at HC
        go_wp2_with (refine HC.out.mono ?_; rintro e w' ⟨rfl, hb'⟩)
        go_roundw
        case rel =>
          refine ⟨i + 1, by omega, by go_num, BW'.out.trans (hb'.mono BW'.out.size), Lib.hid fun j hj hjk => ?_⟩
          by_cases e : j = i
          · subst e; rw [HX.out]; exact hq
          · exact HA.out j hj (by omega)
        case measure => simp [intOf]; omega
    · have : i = l.length := by omega
      subst this
      go_wp2_with fail
      go_ret
      exact ⟨by rw [Bk.idx_miss fun j hj => HA.out j hj hj]; rfl, BW'.out⟩
/-- Copy. -/
theorem copyP (q : Nat) (l : List Mp) (R : HProp) (w : World) (hs : l.length ≤ 1000000) (h : Has w (pagesAt q l * R)) :
    Calls Try.prog 38 #[.pointer (some ⟨q, 0, none⟩)] w fun e w' => ∃ p, Res (.pointer (some ⟨p, 0, none⟩)) (pagesAt p l * (pagesAt q l * R)) w e w' := by
  obtain ⟨A, c, h⟩ := pagesAt_open h
  have c0 := h.cell 0
  have cl := h.lt
  have h1 : Has w (row 27 4 (.slice none 0 0) 0 [] * (mrow (.slice A l.length c) l * (blk q #[.slice A l.length c] 84 * R))) := Has.rowNil h.p2
  go_enter Try.func38, Try.ntmps38
  go_wp2_with (at_builtin; refine wpList_append_row rfl _ _ 35 rfl Try.underlying35 elemMp _ _ _ rfl _ _ _ rfl h1 (mcells_one l) ?c1 ?c2 ?_)
  case c1 => unfold maxLen; omega
  case c2 => omega
  intro A' c' w2 h2 x2
  have h3 := h2.new #[.slice A' l.length c'] 84
  have x3 := x2.alloc (.cells #[.slice A' l.length c'] 84)
  go_wp2_with fail
  go_ret
  have h4 : Has (w2.alloc (.cells #[.slice A' l.length c'] 84)) (blk q #[.slice A l.length c] 84 * (mrow (.slice A l.length c) l * (blk w2.heap.size #[.slice A' l.length c'] 84 * (mrow (.slice A' l.length c') l * R)))) := h3.eq (by unfold mrow; (simp only [star_assoc, star_left_comm, star_comm]))
  exact ⟨_, rfl, pagesAt_shut (A := A') (c := c') ((pagesAt_shut h4).eq (by (simp only [star_assoc, star_left_comm, star_comm]))), x3⟩

theorem mrow_in {w : World} {R : HProp} {g n c : Nat} {l : List Mp} (h : Has w (mrow (.slice (some ⟨g, 0, none⟩) n c) l * R)) {k : Nat} (hk : k < l.length) :
    g < w.heap.size ∧ (w.cell? ⟨g, k * 4, none⟩ = some ((Value.int .i64) l[k].page) ∧ w.cell? ⟨g, k * 4 + 1, none⟩ = some ((Value.int .i64) l[k].size) ∧ w.cell? ⟨g, k * 4 + 2, none⟩ = some ((Value.int .i64) l[k].frame) ∧ w.cell? ⟨g, k * 4 + 3, none⟩ = some ((Value.int .i64) l[k].rights)) := by
  obtain ⟨b, e, h1, h2⟩ := mrow_at h hk
  injection e with e
  injection e with e
  subst e
  exact ⟨h1, h2⟩
theorem mrow_push {w : World} {R : HProp} {v : Value} {out : List Mp} {x : Mp} (h : Has w (row 27 4 v (out.length + 1) (mcells out ++ x.cells) * R)) : ∃ A c, v = .slice A (out ++ [x]).length c ∧ Has w (mrow (.slice A (out ++ [x]).length c) (out ++ [x]) * R) := by
  have hl : (out ++ [x]).length = out.length + 1 := by simp
  have hf : ∃ A c, v = .slice A (out.length + 1) c := by
    rcases h.rowCases with ⟨hv, hn, _, _⟩ | ⟨g, cap, cur, hv, _⟩
    · omega
    · exact ⟨_, _, hv⟩
  obtain ⟨A, c, rfl⟩ := hf
  refine ⟨A, c, by rw [hl], ?_⟩
  unfold mrow
  rw [mcells_snoc, hl]
  exact h
/-- What Add has laid so far. -/
def laid (l : List Mp) (m : Mp) (i : Nat) : List Mp := Bk.part l m (Bk.pos l m.page) i
set_option maxHeartbeats 4000000 in
theorem addP (q : Nat) (l : List Mp) (m : Mp) (R : HProp) (w : World) (hl : Bk.Ok l) (hm : i64 m.page) (h : Has w (pagesAt q l * R)) :
    Calls Try.prog 39 #[.pointer (some ⟨q, 0, none⟩), .agg #[(Value.int .i64) m.page, (Value.int .i64) m.size, (Value.int .i64) m.frame, (Value.int .i64) m.rights]] w (Res ((Value.int .i64) (Bk.addC l m)) (pagesAt q (Bk.add l m) * R) w) := by
  have H1 := h.new #[(Value.int .i64) m.page, (Value.int .i64) m.size, (Value.int .i64) m.frame, (Value.int .i64) m.rights] 27
  have x1 := (Ext.refl w).alloc (.cells #[(Value.int .i64) m.page, (Value.int .i64) m.size, (Value.int .i64) m.frame, (Value.int .i64) m.rights] 27)
  have HC := mapFault_any m
  obtain ⟨c0, c1, c2, c3⟩ := H1.cells4
  by_cases hc : check m = 0
  · rw [hc] at HC
    have hmo := mapOk_of hc
    have hle := hl.le
    have hli : ∀ x ∈ l, i64 x.page := fun x hx => (hl.chk x hx).i64
    have HL := Lib.hid hl
    clear hl h
    have hpl := Bk.pos_le l m.page
    go_enter Try.func39, Try.ntmps39
    go_wp2_with (refine (HC _).mono ?_; rintro e w2 ⟨rfl, b2⟩)
    have h2 := H1.below b2
    have x2 := x1.below b2
    clear H1 x1 b2 c0 c1 c2 c3 HC
    have h3 : Has w2 (mrow (.slice none ([] : List Mp).length 0) [] * (blk w.heap.size #[(Value.int .i64) m.page, (Value.int .i64) m.size, (Value.int .i64) m.frame, (Value.int .i64) m.rights] 27 * (pagesAt q l * R))) := Has.rowNil h2
    have h4 : Has w2 (pagesAt q l * (mrow (.slice none ([] : List Mp).length 0) [] * (blk w.heap.size #[(Value.int .i64) m.page, (Value.int .i64) m.size, (Value.int .i64) m.frame, (Value.int .i64) m.rights] 27 * R))) := h3.eq (by (simp only [star_assoc, star_left_comm, star_comm]))
    clear h2 h3
    go_loopw [6, 7, 8] (fun s6 s7 s8 wr => ∃ (i : Nat) (A' : Option Addr) (c' : Nat), i ≤ l.length ∧ s8 = (Value.int .i64) i ∧ s7 = Value.bool (decide (Bk.pos l m.page < i)) ∧ s6 = .slice A' (laid l m i).length c' ∧ Hid (∀ j (hj : j < l.length), j < i → meet l[j] m = false) ∧
        Has wr (pagesAt q l * (mrow (.slice A' (laid l m i).length c') (laid l m i) * (blk w.heap.size #[(Value.int .i64) m.page, (Value.int .i64) m.size, (Value.int .i64) m.frame, (Value.int .i64) m.rights] 27 * R))) ∧ Ext w wr) (fun _ _ s8 _ => l.length - (intOf s8).toNat)
    case atStart => exact ⟨0, none, 0, Nat.zero_le _, rfl, rfl, rfl, Lib.hid fun j _ h => absurd h (Nat.not_lt_zero _), h4, x2⟩
    case round =>
      clear h4 x2
      obtain ⟨i, A', c', hi, rfl, rfl, rfl, HN, hr, hx⟩ := hrel
      have hll : (laid l m i).length ≤ i + 1 := by unfold laid Bk.part; split <;> simp <;> omega
      obtain ⟨A, c, ho⟩ := pagesAt_open hr
      clear hr
      have e0 := ho.cell 0
      have el := ho.lt
      by_cases hlt : i < l.length
      · obtain ⟨b, rfl, hb, d0, d1, d2, d3⟩ := mrow_at ho.right hlt
        obtain ⟨c0, c1, c2, c3⟩ := ho.right.right.right.cells4
        have HB := Lib.hid (fun hn => Bk.behind HL.out hmo hlt hn)
        have HM := Lib.hid (fun W => both_any l[i] m W (hli _ (List.getElem_mem hlt)) hm)
        have HBD := Lib.hid (show meet l[i] m = true → Bk.addC l m = 4 ∧ Bk.add l m = l from fun h => Bk.addC_bad hc (List.any_eq_true.2 ⟨l[i], List.getElem_mem hlt, h⟩))
        have HLO := Lib.hid (show i < Bk.pos l m.page → laid l m (i + 1) = laid l m i ++ [l[i]] from fun h => Bk.part_low h hlt)
        have HHI := Lib.hid (show Bk.pos l m.page < i → laid l m (i + 1) = laid l m i ++ [l[i]] from fun h => Bk.part_high h hlt)
        have HAT := Lib.hid (show Bk.pos l m.page = i → laid l m (i + 1) = laid l m i ++ [m] ++ [l[i]] from fun h => by unfold laid; rw [h]; exact Bk.part_at hlt)
        have HX := Lib.hid (show ∀ j (hj : j < l.length), j = i → l[j] = l[i] from fun j hj h => by subst h; rfl)
        have HXC := Lib.hid (fun (W : World) (P : HProp) (h : Has W (mrow (.slice (some ⟨b, 0, none⟩) l.length c) l * P)) => mrow_in h hlt)
        generalize l[i] = x at *
        generalize laid l m i = out at *
        have v0 := via_cell e0
        have u0 := via_cell d0
        have u1 := via_cell d1
        have u2 := via_cell d2
        have u3 := via_cell d3
        have t0 := via_cell c0
        have t1 := via_cell c1
        have t2 := via_cell c2
        have t3 := via_cell c3
        cases hq : meet x m with
        | true =>
          obtain ⟨hy1, hy2⟩ := HBD.out hq
          rw [hq] at HM
          have HY1 := Lib.hid hy1
          have HY2 := Lib.hid hy2
          clear hy1 hy2 HBD HLO HHI HAT HB hq
          go_wp2_with fail
          refine wp_region_via (by kernel_rfl) (by kernel_rfl) ?_
          repeat (first | go_big_quiet_step ((go_at_call 34; exact Pure.via (HM.out _))) | quiet_step ((go_at_call 34; exact Pure.via (HM.out _))))
          refine wpQuiet_nil ?_
          intro _ hw'
          obtain ⟨uq, hw''⟩ := hw'
          subst hw''
          go_wp2_with fail
          go_ret
          rw [HY1.out, HY2.out]
          exact ⟨rfl, (pagesAt_shut (ho.via uq)).drop3.p2.right, hx.below (via_below _ _)⟩
        | false =>
          have hbe := HB.out hq
          rw [hq] at HM
          have HN' : Hid (∀ j (hj : j < l.length), j < i + 1 → meet l[j] m = false) := Lib.hid fun j hj h => by
            by_cases e : j = i
            · rw [HX.out j hj e]; exact hq
            · exact HN.out j hj (by omega)
          clear HBD HB hq HX HN
          go_wp2_with fail
          refine wp_region_via (by kernel_rfl) (by kernel_rfl) ?_
          repeat (first | go_big_quiet_step ((go_at_call 34; exact Pure.via (HM.out _))) | quiet_step ((go_at_call 34; exact Pure.via (HM.out _))))
          refine wpQuiet_nil ?_
          intro _ hw'
          obtain ⟨uq, hw''⟩ := hw'
          subst hw''
          have hv := ho.via uq
          have xv := hx.below (via_below wr uq)
          clear HM v0 u0 u1 u2 u3 t0 t1 t2 t3 c0 c1 c2 c3 d0 d1 d2 d3 e0 el hb ho hx
          generalize via wr uq = wv at *
          clear wr uq
          have e0 := hv.cell 0
          have el := hv.lt
          obtain ⟨hb, d0, d1, d2, d3⟩ := HXC.out _ _ hv.right
          obtain ⟨c0, c1, c2, c3⟩ := hv.right.right.right.cells4
          have cl := hv.right.right.right.lt
          have v0 := via_cell e0
          have u0 := via_cell d0
          have t0 := via_cell c0
          rcases Nat.lt_trichotomy (Bk.pos l m.page) i with hki | hki | hki
          · have hd : decide (Bk.pos l m.page < i) = true := decide_eq_true hki
            have HE := Lib.hid (HHI.out hki)
            have hd2 : (true : Bool) = decide (Bk.pos l m.page < i + 1) := (decide_eq_true (by omega)).symm
            have HD2 := Lib.hid hd2
            clear HHI HLO HAT hbe hd2
            go_wp2_with fail
            refine wp_region_via (by kernel_rfl) (by kernel_rfl) ?_
            repeat (first | go_big_quiet_step (fail) | quiet_step (fail))
            refine wpQuiet_nil ?_
            intro _ hw'
            obtain ⟨uq, hw''⟩ := hw'
            subst hw''
            have hr2 : Has (via wv uq) (row 27 4 (.slice A' out.length c') out.length (mcells out) * (blk q #[.slice (some ⟨b, 0, none⟩) l.length c] 84 * (mrow (.slice (some ⟨b, 0, none⟩) l.length c) l * (blk w.heap.size #[(Value.int .i64) m.page, (Value.int .i64) m.size, (Value.int .i64) m.frame, (Value.int .i64) m.rights] 27 * R)))) := (hv.via uq).eq (by unfold mrow; (simp only [star_assoc, star_left_comm, star_comm]))
            have x2 := xv.below (via_below wv uq)
            clear v0 u0 t0 e0 el hb d0 d1 d2 d3 c0 c1 c2 c3 cl hv xv
            generalize via wv uq = wy at *
            have e0 := hr2.right.cell 0
            have el := hr2.right.lt
            obtain ⟨hb, d0, d1, d2, d3⟩ := HXC.out _ _ hr2.right.right
            go_wp2_with (at_builtin; refine wpList_append_has rfl _ _ 35 rfl Try.underlying35 elemMp _ _ _ rfl (hr2.alloc (.cells #[(Value.int .i64) x.page, (Value.int .i64) x.size, (Value.int .i64) x.frame, (Value.int .i64) x.rights] 27)) ⟨wy.heap.size, 0, none⟩ 1 1 x.cells rfl rfl (news_many wy x.cells 27) (oneMp x) ?_ ?_ ?_)
            rotate_left
            rotate_left
            · intro v3 w3 h3 x3
              obtain ⟨A3, c3, rfl, g3⟩ := mrow_push h3
              clear h3
              go_wp2_with fail
              go_roundw
              case rel => exact ⟨i + 1, A3, c3, by omega, by go_num, by rw [← HD2.out], by rw [HE.out], HN', by rw [HE.out]; exact (pagesAt_shut (A := some ⟨b, 0, none⟩) (c := c) (g3.eq (by (simp only [star_assoc, star_left_comm, star_comm])))), (x2.alloc _).trans x3⟩
              case measure => simp [intOf]; omega
            · unfold maxLen; omega
            · omega
          · have hd : decide (Bk.pos l m.page < i) = false := decide_eq_false (by omega)
            have hbe2 : decide (m.page < x.page) = true := by rw [hbe]; exact decide_eq_true (by omega)
            have HE := Lib.hid (HAT.out hki)
            have HD2 := Lib.hid (show (true : Bool) = decide (Bk.pos l m.page < i + 1) from (decide_eq_true (by omega)).symm)
            clear HHI HLO HAT hbe hki
            go_wp2_with fail
            refine wp_region_via (by kernel_rfl) (by kernel_rfl) ?_
            repeat (first | go_big_quiet_step (fail) | quiet_step (fail))
            refine wpQuiet_nil ?_
            intro _ hw'
            obtain ⟨uq, hw''⟩ := hw'
            subst hw''
            have hr2 : Has (via wv uq) (row 27 4 (.slice A' out.length c') out.length (mcells out) * (blk q #[.slice (some ⟨b, 0, none⟩) l.length c] 84 * (mrow (.slice (some ⟨b, 0, none⟩) l.length c) l * (blk w.heap.size #[(Value.int .i64) m.page, (Value.int .i64) m.size, (Value.int .i64) m.frame, (Value.int .i64) m.rights] 27 * R)))) := (hv.via uq).eq (by unfold mrow; (simp only [star_assoc, star_left_comm, star_comm]))
            have x2 := xv.below (via_below wv uq)
            clear v0 u0 t0 e0 el hb d0 d1 d2 d3 c0 c1 c2 c3 cl hv xv hd hbe2
            generalize via wv uq = wy at *
            obtain ⟨c0, c1, c2, c3⟩ := hr2.right.right.right.cells4
            have cl := hr2.right.right.right.lt
            go_wp2_with (at_builtin; refine wpList_append_has rfl _ _ 35 rfl Try.underlying35 elemMp _ _ _ rfl (hr2.alloc (.cells #[(Value.int .i64) m.page, (Value.int .i64) m.size, (Value.int .i64) m.frame, (Value.int .i64) m.rights] 27)) ⟨wy.heap.size, 0, none⟩ 1 1 m.cells rfl rfl (news_many wy m.cells 27) (oneMp m) ?_ ?_ ?_)
            rotate_left
            rotate_left
            · intro v3 w3 h3 x3
              obtain ⟨A3, c3', rfl, g3⟩ := mrow_push h3
              have h3' : Has w3 (row 27 4 (.slice A3 (out ++ [m]).length c3') (out ++ [m]).length (mcells (out ++ [m])) * _) := g3
              clear c0 c1 c2 c3 cl h3
              have e0 := g3.right.cell 0
              have el := g3.right.lt
              obtain ⟨hb, d0, d1, d2, d3⟩ := HXC.out _ _ g3.right.right
              have hl3 : (out ++ [m]).length ≤ i + 2 := by simp; omega
              generalize out ++ [m] = out2 at *
              go_wp2_with (at_builtin; refine wpList_append_has rfl _ _ 35 rfl Try.underlying35 elemMp _ _ _ rfl (h3'.alloc (.cells #[(Value.int .i64) x.page, (Value.int .i64) x.size, (Value.int .i64) x.frame, (Value.int .i64) x.rights] 27)) ⟨w3.heap.size, 0, none⟩ 1 1 x.cells rfl rfl (news_many w3 x.cells 27) (oneMp x) ?_ ?_ ?_)
              rotate_left
              rotate_left
              · intro v4 w4 h4 x4
                obtain ⟨A4, c4, rfl, g4⟩ := mrow_push h4
                clear h4
                go_wp2_with fail
                go_roundw
                case rel => exact ⟨i + 1, A4, c4, by omega, by go_num, by rw [← HD2.out], by rw [HE.out], HN', by rw [HE.out]; exact (pagesAt_shut (A := some ⟨b, 0, none⟩) (c := c) (g4.eq (by (simp only [star_assoc, star_left_comm, star_comm])))), ((x2.alloc _).trans x3).alloc _ |>.trans x4⟩
                case measure => simp [intOf]; omega
              · unfold maxLen; omega
              · omega
            · unfold maxLen; omega
            · omega
          · have hd : decide (Bk.pos l m.page < i) = false := decide_eq_false (by omega)
            have hbe2 : decide (m.page < x.page) = false := by rw [hbe]; exact decide_eq_false (by omega)
            have HE := Lib.hid (HLO.out hki)
            have HD2 := Lib.hid (show (false : Bool) = decide (Bk.pos l m.page < i + 1) from (decide_eq_false (by omega)).symm)
            clear HHI HLO HAT hbe
            go_wp2_with fail
            refine wp_region_via (by kernel_rfl) (by kernel_rfl) ?_
            repeat (first | go_big_quiet_step (fail) | quiet_step (fail))
            refine wpQuiet_nil ?_
            intro _ hw'
            obtain ⟨uq, hw''⟩ := hw'
            subst hw''
            have hr2 : Has (via wv uq) (row 27 4 (.slice A' out.length c') out.length (mcells out) * (blk q #[.slice (some ⟨b, 0, none⟩) l.length c] 84 * (mrow (.slice (some ⟨b, 0, none⟩) l.length c) l * (blk w.heap.size #[(Value.int .i64) m.page, (Value.int .i64) m.size, (Value.int .i64) m.frame, (Value.int .i64) m.rights] 27 * R)))) := (hv.via uq).eq (by unfold mrow; (simp only [star_assoc, star_left_comm, star_comm]))
            have x2 := xv.below (via_below wv uq)
            clear v0 u0 t0 e0 el hb d0 d1 d2 d3 c0 c1 c2 c3 cl hv xv hbe2
            generalize via wv uq = wy at *
            have e0 := hr2.right.cell 0
            have el := hr2.right.lt
            obtain ⟨hb, d0, d1, d2, d3⟩ := HXC.out _ _ hr2.right.right
            go_wp2_with (at_builtin; refine wpList_append_has rfl _ _ 35 rfl Try.underlying35 elemMp _ _ _ rfl (hr2.alloc (.cells #[(Value.int .i64) x.page, (Value.int .i64) x.size, (Value.int .i64) x.frame, (Value.int .i64) x.rights] 27)) ⟨wy.heap.size, 0, none⟩ 1 1 x.cells rfl rfl (news_many wy x.cells 27) (oneMp x) ?_ ?_ ?_)
            rotate_left
            rotate_left
            · intro v3 w3 h3 x3
              obtain ⟨A3, c3, rfl, g3⟩ := mrow_push h3
              clear h3
              go_wp2_with fail
              go_roundw
              case rel => exact ⟨i + 1, A3, c3, by omega, by go_num, by rw [← HD2.out], by rw [HE.out], HN', by rw [HE.out]; exact (pagesAt_shut (A := some ⟨b, 0, none⟩) (c := c) (g3.eq (by (simp only [star_assoc, star_left_comm, star_comm])))), (x2.alloc _).trans x3⟩
              case measure => simp [intOf]; omega
            · unfold maxLen; omega
            · omega
      · have hil : i = l.length := by omega
        subst hil
        have hnb : Bk.bad l m = false := by
          unfold Bk.bad
          rw [List.any_eq_false]
          intro x hx
          obtain ⟨j, hj, rfl⟩ := List.getElem_of_mem hx
          rw [HN.out j hj hj]
          simp
        obtain ⟨hy1, hy2⟩ := Bk.addC_ok hc hnb
        have HY1 := Lib.hid hy1
        have HY2 := Lib.hid hy2
        clear hy1 hy2 HN hnb
        obtain ⟨c0, c1, c2, c3⟩ := ho.right.right.right.cells4
        have cl := ho.right.right.right.lt
        have ef := ho.free 0
        by_cases hk : Bk.pos l m.page < l.length
        · have hd : decide (Bk.pos l m.page < l.length) = true := decide_eq_true hk
          have HE := Lib.hid (show laid l m l.length = Bk.add l m by rw [HY2.out]; exact Bk.part_end hk)
          generalize laid l m l.length = out at *
          go_wp2_with fail
          go_ret
          rw [HY1.out, ← HE.out]
          have h5' : Has (wr.setCell ⟨q, 0, none⟩ (.slice A' out.length c')) (blk q #[.slice A' out.length c'] 84 * _) := ho.set 0 (.slice A' out.length c')
          have h5 := h5'.eq (Q := blk q #[.slice A' out.length c'] 84 * (mrow (.slice A' out.length c') out * (R * (mrow (.slice A l.length c) l * blk w.heap.size #[(Value.int .i64) m.page, (Value.int .i64) m.size, (Value.int .i64) m.frame, (Value.int .i64) m.rights] 27)))) (by (simp only [star_assoc, star_left_comm, star_comm]))
          exact ⟨rfl, (pagesAt_shut h5).a2.left, hx.set _ _⟩
        · have hd : decide (Bk.pos l m.page < l.length) = false := decide_eq_false hk
          have HE := Lib.hid (show laid l m l.length ++ [m] = Bk.add l m by
            rw [HY2.out]
            have e : Bk.pos l m.page = l.length := by omega
            unfold laid
            rw [e]
            exact Bk.part_last l m)
          generalize laid l m l.length = out at *
          have hr2 : Has wr (row 27 4 (.slice A' out.length c') out.length (mcells out) * (blk q #[.slice A l.length c] 84 * (R * (mrow (.slice A l.length c) l * blk w.heap.size #[(Value.int .i64) m.page, (Value.int .i64) m.size, (Value.int .i64) m.frame, (Value.int .i64) m.rights] 27)))) := ho.eq (by unfold mrow; (simp only [star_assoc, star_left_comm, star_comm]))
          clear ho
          go_wp2_with (at_builtin; refine wpList_append_has rfl _ _ 35 rfl Try.underlying35 elemMp _ _ _ rfl (hr2.alloc (.cells #[(Value.int .i64) m.page, (Value.int .i64) m.size, (Value.int .i64) m.frame, (Value.int .i64) m.rights] 27)) ⟨wr.heap.size, 0, none⟩ 1 1 m.cells rfl rfl (news_many wr m.cells 27) (oneMp m) ?_ ?_ ?_)
          rotate_left
          rotate_left
          · intro v3 w3 h3 x3
            obtain ⟨A3, c3, rfl, g3⟩ := mrow_push h3
            clear e0 el ef h3
            have e0 := g3.right.cell 0
            have el := g3.right.lt
            have ef := g3.right.free 0
            generalize out ++ [m] = out2 at *
            go_wp2_with fail
            go_ret
            rw [HY1.out, ← HE.out]
            exact ⟨rfl, (pagesAt_shut (g3.p2.set 0 (.slice A3 out2.length c3))).a2.left, ((hx.alloc _).trans x3).set _ _⟩
          · unfold maxLen; omega
          · omega
  · have hn : (check m != 0) = true := by simpa using hc
    obtain ⟨hy1, hy2⟩ := Bk.addC_check (l := l) hc
    rw [hy1, hy2]
    clear hy1 hy2 hc
    generalize check m = c at *
    go_enter Try.func39, Try.ntmps39
    go_wp2_with (refine (HC _).mono ?_; rintro e w2 ⟨rfl, b2⟩)
    go_ret
    exact ⟨rfl, (H1.below b2).right, x1.below b2⟩
end Go.Proofs.Ytndhgomikpokpaa
