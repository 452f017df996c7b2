/- Contracts of the document's core on what it keeps: Kept, Drop, Put. -/
import Derived.Test.YtndhgomikpokpaaRowsO
import Derived.Test.YtndhgomikpokpaaTl
import Derived.Test.YtndhgomikpokpaaRefPage
import Derived.Test.YtndhgomikpokpaaWalkerM
namespace Go.Proofs.Ytndhgomikpokpaa
open Go.RowKit
set_option maxRecDepth 100000

theorem elemLnR : Elem Try.prog 99 lnZero 5 40 := ⟨by kernel_rfl, rfl, by omega⟩
/-- The document's row of lines. -/
def rrow (v : Value) (l : List Ln) : HProp := rowO 99 5 v l.length (lcells l)
section
variable {w : World} {R : HProp} {A : Option Addr} {n c : Nat} {l : List Ln}
theorem rrow_len (h : Has w (rrow (.slice A n c) l * R)) : n = l.length := by
  obtain ⟨A', c', e⟩ := Has.rowOForm (e := 99) (size := 5) h
  injection e
theorem rrow_at (h : Has w (rrow (.slice A n c) l * R)) {k : Nat} (hk : k < l.length) :
    ∃ b off, A = some ⟨b, off, none⟩ ∧ b < w.heap.size ∧
      (w.cell? ⟨b, off + k * 5, none⟩ = some ((Value.int .i64) l[k].m.page) ∧ w.cell? ⟨b, off + k * 5 + 1, none⟩ = some ((Value.int .i64) l[k].m.size) ∧ w.cell? ⟨b, off + k * 5 + 2, none⟩ = some ((Value.int .i64) l[k].m.frame) ∧ w.cell? ⟨b, off + k * 5 + 3, none⟩ = some ((Value.int .i64) l[k].m.rights) ∧ w.cell? ⟨b, off + k * 5 + 4, none⟩ = some (Value.bool l[k].dirty)) := by
  obtain rfl := rrow_len h
  have g := fun t (ht : t < 5) => Has.rowOGet (e := 99) (size := 5) h (i := k * 5 + t) (u := (l[k].cells[t]'(by rw [ln_len]; exact ht))) (by
    have := flat_get (cells := Ln.cells) ln_len hk ht
    rw [List.getElem?_eq_getElem (l := l[k].cells) (by rw [ln_len]; exact ht)] at this
    exact this)
  obtain ⟨b, off, rfl, hb, c0⟩ := g 0 (by omega)
  obtain ⟨b1, o1, e1, _, c1⟩ := g 1 (by omega)
  obtain ⟨b2, o2, e2, _, c2⟩ := g 2 (by omega)
  obtain ⟨b3, o3, e3, _, c3⟩ := g 3 (by omega)
  obtain ⟨b4, o4, e4, _, c4⟩ := g 4 (by omega)
  injection e1 with e1; injection e1 with e1 f1; subst e1; subst f1
  injection e2 with e2; injection e2 with e2 f2; subst e2; subst f2
  injection e3 with e3; injection e3 with e3 f3; subst e3; subst f3
  injection e4 with e4; injection e4 with e4 f4; subst e4; subst f4
  simp only [← Nat.add_assoc, Nat.add_zero] at c0 c1 c2 c3 c4
  exact ⟨b, off, rfl, hb, c0, c1, c2, c3, c4⟩
end
/-- The document's core at block q: what it keeps, where its walk is. -/
def coreBlk (q : Nat) (v : Value) (k : Ck) : HProp := blk q #[v, Value.bool k.on, (Value.int .i64) k.a.page, (Value.int .i64) k.a.kind, Value.bool k.a.user, (Value.int .i64) k.t, (Value.int .i64) k.level, Value.bool k.mark, (Value.int .u64) k.w] 94
def coreIn (q : Nat) (A : Option Addr) (c : Nat) (l : List Ln) (k : Ck) (R : HProp) : HProp := coreBlk q (.slice A l.length c) k * (rrow (.slice A l.length c) l * R)

theorem keptR (q : Nat) (A : Option Addr) (c : Nat) (l : List Ln) (k : Ck) (p : Int) (R : HProp) (w : World) (hok : ∀ x ∈ l, i64 x.m.page) (hp : i64 p) (h : Has w (coreIn q A c l k R)) :
    Calls Try.prog 83 #[.pointer (some ⟨q, 0, none⟩), .int .i64 p] w (Pure ((Value.int .i64) (Tl.idx l p)) w) := by
  have hbig := (Has.rowOSmall (e := 99) (size := 5) h.right).1
  have he : Tl.idx l p = fidx (fun x => over x.m p) l := rfl
  rw [he]
  have c0 : w.cell? ⟨q, 0, none⟩ = some (.slice A l.length c) := Has.cell h 0
  go_enter Try.func83, Try.ntmps83
  go_wp2_with fail
  go_loopw [5] (fun s5 wr => ∃ i : Nat, i ≤ l.length ∧ s5 = (Value.int .i64) i ∧ Below w.heap.size w wr ∧ Hid (∀ j (hj : j < l.length), j < i → over l[j].m p = false)) (fun s5 _ => l.length - (intOf s5).toNat)
  case atStart => exact ⟨0, Nat.zero_le _, rfl, Below.refl _ _, Lib.hid fun j _ h => absurd h (Nat.not_lt_zero _)⟩
  case round =>
    obtain ⟨i, hi, rfl, BW, HA⟩ := hrel
    have h' := h.below BW
    clear c0
    have c0 : wr.cell? ⟨q, 0, none⟩ = some (.slice A l.length c) := Has.cell h' 0
    have cl := Has.lt h'
    have BW' := Lib.hid BW
    clear BW
    by_cases hlt : i < l.length
    · obtain ⟨b, off, rfl, hb, d0, d1, d2, d3, _⟩ := rrow_at h'.right hlt
      have HC := Lib.hid (refHas_any l[i].m p wr (hok _ (List.getElem_mem hlt)) hp)
      have hz := Lib.hid (show (l[i] = l[i]) from rfl)
      generalize hx : l[i] = x at d0 d1 d2 d3 HC
      have HX := Lib.hid hx
      clear hx hz h' h
      cases hq : over x.m p with
      | true =>
        rw [hq] at HC
        go_wp2_with (refine HC.out.mono ?_; rintro e w' ⟨rfl, hb'⟩)
        go_ret
        exact ⟨by rw [fidx_hit hlt (by rw [HX.out]; exact hq) HA.out]; rfl, BW'.out.trans (hb'.mono BW'.out.size)⟩
      | false =>
        rw [hq] at HC
        go_wp2_with (refine HC.out.mono ?_; rintro e w' ⟨rfl, hb'⟩)
        go_roundw
        case rel =>
          refine ⟨i + 1, by omega, by go_num, BW'.out.trans (hb'.mono BW'.out.size), Lib.hid fun j hj hjk => ?_⟩
          by_cases e : j = i
          · subst e; rw [HX.out]; exact hq
          · exact HA.out j hj (by omega)
        case measure => simp [intOf]; omega
    · have : i = l.length := by omega
      subst this
      go_wp2_with fail
      go_ret
      exact ⟨by rw [fidx_miss fun j hj => HA.out j hj hj]; rfl, BW'.out⟩

theorem dropR (q : Nat) (A : Option Addr) (c : Nat) (l : List Ln) (k : Ck) (m : Mp) (R : HProp) (w : World) (hok : ∀ x ∈ l, i64 x.m.page) (hm : i64 m.page) (hl : l.length ≤ 1000) (h : Has w (coreIn q A c l k R)) :
    Calls Try.prog 81 #[.pointer (some ⟨q, 0, none⟩), .agg #[(Value.int .i64) m.page, (Value.int .i64) m.size, (Value.int .i64) m.frame, (Value.int .i64) m.rights]] w
      fun e w' => ∃ A' c', Res ((Value.int .i64) ((l.length : Int) - (Tl.drop l m).length)) (coreIn q A' c' (Tl.drop l m) k R) w e w' := by
  have hbig := (Has.rowOSmall (e := 99) (size := 5) h.right).1
  have h1 := Has.new h #[(Value.int .i64) m.page, (Value.int .i64) m.size, (Value.int .i64) m.frame, (Value.int .i64) m.rights] 27
  have x1 := (Ext.refl w).alloc (.cells #[(Value.int .i64) m.page, (Value.int .i64) m.size, (Value.int .i64) m.frame, (Value.int .i64) m.rights] 27)
  have h2 : Has (w.alloc (.cells #[(Value.int .i64) m.page, (Value.int .i64) m.size, (Value.int .i64) m.frame, (Value.int .i64) m.rights] 27)) (rowO 99 5 (.slice none 0 0) 0 [] * (blk w.heap.size #[(Value.int .i64) m.page, (Value.int .i64) m.size, (Value.int .i64) m.frame, (Value.int .i64) m.rights] 27 * coreIn q A c l k R)) := Has.rowONil h1
  clear h h1
  go_enter Try.func81, Try.ntmps81
  go_wp2_with fail
  go_loopw [5, 6] (fun s5 s6 wr => ∃ (i : Nat) (A' : Option Addr) (c' : Nat) (kept : List Ln), i ≤ l.length ∧ s6 = (Value.int .i64) i ∧ s5 = .slice A' kept.length c' ∧ kept.length ≤ i ∧ Hid (kept = (l.take i).filter fun x => !meet x.m m) ∧
      Has wr (rrow (.slice A' kept.length c') kept * (blk w.heap.size #[(Value.int .i64) m.page, (Value.int .i64) m.size, (Value.int .i64) m.frame, (Value.int .i64) m.rights] 27 * coreIn q A c l k R)) ∧ Ext w wr) (fun _ s6 _ => l.length - (intOf s6).toNat)
  case atStart => exact ⟨0, none, 0, [], Nat.zero_le _, rfl, rfl, Nat.zero_le _, Lib.hid rfl, h2, x1⟩
  case round =>
    clear h2 x1
    obtain ⟨i, A', c', kept, hi, rfl, rfl, hkl, HK, hr, hx⟩ := hrel
    have hsm := (Has.rowOSmall (e := 99) (size := 5) hr).1
    have hcore := hr.right.right
    have c0 : wr.cell? ⟨q, 0, none⟩ = some (.slice A l.length c) := Has.cell hcore 0
    have cl := Has.lt hcore
    by_cases hlt : i < l.length
    · obtain ⟨b, off, rfl, hb, d0, d1, d2, d3, d4⟩ := rrow_at hcore.right hlt
      have hxo := hok _ (List.getElem_mem hlt)
      have HN := Lib.hid (filter_next (p := fun x => !meet x.m m) hlt)
      have HX := Lib.hid (show l[i] = l[i] from rfl)
      generalize hgx : l[i] = x at d0 d1 d2 d3 d4 hxo HN
      have HGX := Lib.hid hgx
      clear hgx HX
      have v0 := via_cell c0
      have vd0 := via_cell d0
      have vd1 := via_cell d1
      have vd2 := via_cell d2
      have vd3 := via_cell d3
      obtain ⟨e0, e1, e2, e3⟩ := hr.right.cells4
      have ve0 := via_cell e0
      have ve1 := via_cell e1
      have ve2 := via_cell e2
      have ve3 := via_cell e3
      have HC := Lib.hid (fun W => both_any x.m m W hxo hm)
      cases hq : meet x.m m with
      | true =>
        rw [hq] at HC
        go_wp2_with fail
        refine wp_region_via (by kernel_rfl) (by kernel_rfl) ?_
        repeat (first | go_big_quiet_step ((go_at_call 34; exact Pure.via (HC.out _))) | quiet_step ((go_at_call 34; exact Pure.via (HC.out _))))
        refine wpQuiet_nil ?_
        intro _ hw'
        obtain ⟨uq, hw''⟩ := hw'
        subst hw''
        go_wp2_with fail
        go_roundw
        case rel => exact ⟨i + 1, A', c', kept, by omega, by go_num, rfl, by omega, Lib.hid (by rw [HN.out, hq, ← HK.out]; simp), hr.via uq, hx.below (via_below _ _)⟩
        case measure => simp [intOf]; omega
      | false =>
        rw [hq] at HC
        go_wp2_with fail
        refine wp_region_via (by kernel_rfl) (by kernel_rfl) ?_
        repeat (first | go_big_quiet_step ((go_at_call 34; exact Pure.via (HC.out _))) | quiet_step ((go_at_call 34; exact Pure.via (HC.out _))))
        refine wpQuiet_nil ?_
        intro _ hw'
        obtain ⟨uq, hw''⟩ := hw'
        subst hw''
        have hv := hr.via uq
        have xv := hx.below (via_below wr uq)
        clear v0 vd0 vd1 vd2 vd3 ve0 ve1 ve2 ve3 c0 d0 d1 d2 d3 d4 e0 e1 e2 e3 cl hb
        generalize via wr uq = wv at *
        have c0 : wv.cell? ⟨q, 0, none⟩ = some (.slice (some ⟨b, off, none⟩) l.length c) := Has.cell hv.right.right 0
        have cl := Has.lt hv.right.right
        obtain ⟨b', off', he, hb, d0, d1, d2, d3, d4⟩ := rrow_at hv.right.right.right hlt
        injection he with he; injection he with he1 he2; subst he1; subst he2
        rw [HGX.out] at d0 d1 d2 d3 d4
        have hrow := hv.alloc (.cells #[(Value.int .i64) x.m.page, (Value.int .i64) x.m.size, (Value.int .i64) x.m.frame, (Value.int .i64) x.m.rights, Value.bool x.dirty] 99)
        clear hcore hr hx HC
        go_wp2_with (at_builtin; refine wpList_append_hasO rfl _ _ 92 rfl Try.underlying92 elemLnR _ _ _ rfl hrow ⟨wv.heap.size, 0, none⟩ 1 1 x.cells rfl rfl (news_many wv x.cells 99) (oneCells x) ?c2 ?c3 ?_)
        case c2 => unfold maxLen; omega
        case c3 => omega
        intro A2 c2 w2 h2 x2
        go_wp2_with fail
        go_roundw
        case rel =>
          refine ⟨i + 1, A2, c2, kept ++ [x], by omega, by go_num, by rw [List.length_append]; rfl, by simp; omega, Lib.hid (by rw [HN.out, hq, ← HK.out]; simp), ?_, (xv.alloc _).trans x2⟩
          have e1 : lcells (kept ++ [x]) = lcells kept ++ x.cells := by rw [lcells_append]; simp [lcells]
          unfold rrow
          rw [e1, List.length_append]
          exact h2
        case measure => simp [intOf]; omega
    · have : i = l.length := by omega
      subst this
      have hf : kept = Tl.drop l m := by rw [HK.out, List.take_length]; rfl
      have HF := Lib.hid hf
      clear hf
      have cf := Has.free hcore 0
      have hfin : Has wr (coreBlk q (.slice A l.length c) k * (rrow (.slice A' kept.length c') kept * R)) := by
        have := hr.p2.right
        unfold coreIn at this
        exact this.p2.drop3
      go_wp2_with fail
      go_ret
      rw [← HF.out]
      exact ⟨A', c', by go_num, Has.set hfin 0 _, hx.set _ _⟩
end Go.Proofs.Ytndhgomikpokpaa

namespace Go.Proofs.Ytndhgomikpokpaa
open Go.RowKit
set_option maxRecDepth 100000

/-- The document's core at block q. -/
def coreAt (q : Nat) (l : List Ln) (k : Ck) : HProp := ex fun A => ex fun c => coreIn q A c l k (lift True)
theorem coreAt_open {q : Nat} {l : List Ln} {k : Ck} {R : HProp} {w : World} (h : Has w (coreAt q l k * R)) : ∃ A c, Has w (coreIn q A c l k R) := by
  unfold coreAt at h
  obtain ⟨g, h⟩ := has_ex_star.1 h
  obtain ⟨vf, h⟩ := has_ex_star.1 h
  refine ⟨g, vf, ?_⟩
  unfold coreIn at h ⊢
  simpa only [star_assoc, star_lift] using h
theorem coreAt_shut {q c : Nat} {A : Option Addr} {l : List Ln} {k : Ck} {R : HProp} {w : World} (h : Has w (coreIn q A c l k R)) : Has w (coreAt q l k * R) := by
  unfold coreAt
  refine has_ex_star.2 ⟨A, has_ex_star.2 ⟨c, ?_⟩⟩
  unfold coreIn at h ⊢
  simpa only [star_assoc, star_lift] using h
theorem putR_shut {q c X : Nat} {A : Option Addr} {l : List Ln} {k : Ck} {x : Ln} {cs : Array Value} {t : TypeId} {R : HProp} {w : World} (h : Has w (coreBlk q (.slice A (l.length + 1) c) k * (rowO 99 5 (.slice A (l.length + 1) c) (l.length + 1) (lcells l ++ x.cells) * (blk X cs t * R)))) :
    Has w (coreAt q (l ++ [x]) k * R) := by
  have h1 := h.drop3
  refine coreAt_shut (A := A) (c := c) ?_
  unfold coreIn rrow
  rw [show (l ++ [x]).length = l.length + 1 by simp, lcells_append, show lcells [x] = x.cells by simp [lcells]]
  exact h1
theorem putR_no (q : Nat) (l : List Ln) (k : Ck) (x : Ln) (R : HProp) (w : World) (hc : check x.m ≠ 0) (h : Has w (coreAt q l k * R)) :
    Calls Try.prog 80 #[.pointer (some ⟨q, 0, none⟩), .agg #[(Value.int .i64) x.m.page, (Value.int .i64) x.m.size, (Value.int .i64) x.m.frame, (Value.int .i64) x.m.rights, Value.bool x.dirty]] w (Res (Value.bool false) (coreAt q l k * R) w) := by
  have h1 := h.new #[(Value.int .i64) x.m.page, (Value.int .i64) x.m.size, (Value.int .i64) x.m.frame, (Value.int .i64) x.m.rights, Value.bool x.dirty] 99
  have x1 := (Ext.refl w).alloc (.cells #[(Value.int .i64) x.m.page, (Value.int .i64) x.m.size, (Value.int .i64) x.m.frame, (Value.int .i64) x.m.rights, Value.bool x.dirty] 99)
  obtain ⟨d0, d1, d2, d3, d4⟩ := h1.cells5
  have hn : (check x.m != 0) = true := by simpa using hc
  have HC := Lib.hid (mapFault_any x.m)
  generalize check x.m = kk at *
  go_enter Try.func80, Try.ntmps80
  go_wp2_with (refine (HC.out _).mono ?_; rintro e w2 ⟨rfl, b2⟩)
  go_ret
  exact ⟨rfl, h1.right.below b2, x1.below b2⟩
theorem putR_yes (q : Nat) (l : List Ln) (k : Ck) (x : Ln) (R : HProp) (w : World) (hok : LOk l) (hx : i64 x.m.page) (hl : l.length ≤ 1000) (hc : check x.m = 0) (h : Has w (coreAt q l k * R)) :
    Calls Try.prog 80 #[.pointer (some ⟨q, 0, none⟩), .agg #[(Value.int .i64) x.m.page, (Value.int .i64) x.m.size, (Value.int .i64) x.m.frame, (Value.int .i64) x.m.rights, Value.bool x.dirty]] w (Res (Value.bool true) (coreAt q (Tl.room (Tl.drop l x.m) ++ [x]) k * R) w) := by
  have h1 := h.new #[(Value.int .i64) x.m.page, (Value.int .i64) x.m.size, (Value.int .i64) x.m.frame, (Value.int .i64) x.m.rights, Value.bool x.dirty] 99
  have x1 := (Ext.refl w).alloc (.cells #[(Value.int .i64) x.m.page, (Value.int .i64) x.m.size, (Value.int .i64) x.m.frame, (Value.int .i64) x.m.rights, Value.bool x.dirty] 99)
  obtain ⟨d0, d1, d2, d3, d4⟩ := h1.cells5
  have HC := Lib.hid (mapFault_any x.m)
  rw [hc] at HC
  have HD := Lib.hid (fun A c R w h => dropR q A c l k x.m R w hok hx hl h)
  have hle : (Tl.drop l x.m).length ≤ l.length := List.length_filter_le _ _
  clear hc
  generalize Tl.drop l x.m = l1 at *
  by_cases h6 : l1.length = 6
  · have hr : Tl.room l1 = l1.tail := by unfold Tl.room; rw [if_pos h6]
    rw [hr]
    go_enter Try.func80, Try.ntmps80
    go_wp2_with fail
    refine (HC.out _).mono ?_; rintro e w2 ⟨rfl, b2⟩
    have h2 := h1.below b2
    have x2 := x1.below b2
    clear d0 d1 d2 d3 d4
    obtain ⟨d0, d1, d2, d3, d4⟩ := h2.cells5
    obtain ⟨A, c, h2⟩ := coreAt_open h2.p2
    go_wp2_with fail
    refine (HD.out _ _ _ _ h2).mono ?_; rintro e w3 ⟨A3, c3, rfl, h3, x3⟩
    have x3 := x2.trans x3
    have hsm3 := (Has.rowOSmall (e := 99) (size := 5) h3.right).2
    rw [h6] at hsm3
    obtain ⟨g, off, rfl⟩ : ∃ g off, A3 = some ⟨g, off, none⟩ := by
      obtain ⟨g, off, e, _⟩ := rrow_at h3.right (k := 0) (by omega)
      exact ⟨g, off, e⟩
    have c0 : w3.cell? ⟨q, 0, none⟩ = some (.slice (some ⟨g, off, none⟩) l1.length c3) := Has.cell h3 0
    rw [h6] at c0
    have cp := Has.lt h3
    have cf := Has.free h3 0
    have ht : Has w3 (rrow (.slice (some ⟨g, off + 5, none⟩) l1.tail.length (c3 - 1)) l1.tail * (coreBlk q (.slice (some ⟨g, off, none⟩) l1.length c3) k * (blk w.heap.size #[(Value.int .i64) x.m.page, (Value.int .i64) x.m.size, (Value.int .i64) x.m.frame, (Value.int .i64) x.m.rights, Value.bool x.dirty] 99 * R))) := by
      have h4 := h3.p2
      unfold rrow at h4
      cases l1 with
      | nil => simp at h6
      | cons y l1 =>
        have h5 := Has.rowOTail h4
        rw [if_neg (by omega)] at h5
        exact h5
    have hl' : l1.tail.length ≤ 1000 := by simp [h6]
    have h5t : l1.tail.length = 5 := by simp [h6]
    have ht2 := (Has.p2 ht).set 0 (.slice (some ⟨g, off + 5, none⟩) l1.tail.length (c3 - 1))
    have h4 : Has (w3.setCell ⟨q, 0, none⟩ (.slice (some ⟨g, off + 5, none⟩) 5 (c3 - 1))) (coreIn q (some ⟨g, off + 5, none⟩) (c3 - 1) l1.tail k (blk w.heap.size #[(Value.int .i64) x.m.page, (Value.int .i64) x.m.size, (Value.int .i64) x.m.frame, (Value.int .i64) x.m.rights, Value.bool x.dirty] 99 * R)) := by
      rw [h5t] at ht2
      unfold coreIn
      rw [h5t]
      rw [← h5t] at ht2 ⊢
      exact ht2
    have x4 := x3.set ⟨q, 0, none⟩ (.slice (some ⟨g, off + 5, none⟩) 5 (c3 - 1))
    generalize l1.tail = l2 at *
    have hc1 : ¬ c3 = 1 := by omega
    clear d0 d1 d2 d3 d4 h1 h2 x1 x2 h HC HD ht ht2 h5t hle hr x3 h3 h6
    go_wp2_with fail
    generalize w3.setCell ⟨q, 0, none⟩ (.slice (some ⟨g, off + 5, none⟩) 5 (c3 - 1)) = wz at *
    clear c0 cp cf
    have hsm := (Has.rowOSmall (e := 99) (size := 5) h4.right).1
    have c0 := Has.cell h4 0
    have cp := Has.lt h4
    have cf := Has.free h4 0
    obtain ⟨d0, d1, d2, d3, d4⟩ := h4.right.right.cells5
    have dl := h4.right.right.lt
    have hrow := (Has.p2 h4.drew).alloc (.cells #[(Value.int .i64) x.m.page, (Value.int .i64) x.m.size, (Value.int .i64) x.m.frame, (Value.int .i64) x.m.rights, Value.bool x.dirty] 99)
    go_region_law (refine step_append_hasO rfl (.tmp 31) (.tmp 33) 92 rfl Try.underlying92 elemLnR _ _ _ (by simp [Act.eval]) hrow ⟨wz.heap.size, 0, none⟩ 1 1 x.cells (by simp [Act.eval]) rfl (news_many wz.drew x.cells 99) (oneCells x) (by unfold maxLen; omega) (by omega) ?_; intro A' c' w5 h5 x5; have g0 := Has.lt h5.right; have g1 := Has.free h5.right 0; have g2 := Has.cell h5.right 0)
    all_goals
      go_wp2_with fail
      go_ret
      exact ⟨rfl, putR_shut (Has.set h5.p2 0 _), ((x4.drew.alloc _).trans x5).set _ _⟩
  · have hr : Tl.room l1 = l1 := by unfold Tl.room; rw [if_neg h6]
    rw [hr]
    have h6' : ((l1.length : Int) == 6) = false := beq_eq_false_iff_ne.2 (by omega)
    clear hr h6
    go_enter Try.func80, Try.ntmps80
    go_wp2_with fail
    refine (HC.out _).mono ?_; rintro e w2 ⟨rfl, b2⟩
    have h2 := h1.below b2
    have x2 := x1.below b2
    clear d0 d1 d2 d3 d4
    obtain ⟨d0, d1, d2, d3, d4⟩ := h2.cells5
    obtain ⟨A, c, h2⟩ := coreAt_open h2.p2
    go_wp2_with fail
    refine (HD.out _ _ _ _ h2).mono ?_; rintro e wz ⟨A, c, rfl, h4, x3⟩
    have x4 := x2.trans x3
    clear d0 d1 d2 d3 d4 h1 h2 x1 x2 h HC HD
    have hl' : l1.length ≤ 1000 := by omega
    clear hle
    have c0 : wz.cell? ⟨q, 0, none⟩ = some (.slice A l1.length c) := Has.cell h4 0
    have cp := Has.lt h4
    go_wp2_with fail
    have hsm := (Has.rowOSmall (e := 99) (size := 5) h4.right).1
    have c0 := Has.cell h4 0
    have cp := Has.lt h4
    have cf := Has.free h4 0
    obtain ⟨d0, d1, d2, d3, d4⟩ := h4.right.right.cells5
    have dl := h4.right.right.lt
    have hrow := (Has.p2 h4.drew).alloc (.cells #[(Value.int .i64) x.m.page, (Value.int .i64) x.m.size, (Value.int .i64) x.m.frame, (Value.int .i64) x.m.rights, Value.bool x.dirty] 99)
    go_region_law (refine step_append_hasO rfl (.tmp 31) (.tmp 33) 92 rfl Try.underlying92 elemLnR _ _ _ (by simp [Act.eval]) hrow ⟨wz.heap.size, 0, none⟩ 1 1 x.cells (by simp [Act.eval]) rfl (news_many wz.drew x.cells 99) (oneCells x) (by unfold maxLen; omega) (by omega) ?_; intro A' c' w5 h5 x5; have g0 := Has.lt h5.right; have g1 := Has.free h5.right 0; have g2 := Has.cell h5.right 0)
    all_goals
      go_wp2_with fail
      go_ret
      exact ⟨rfl, putR_shut (Has.set h5.p2 0 _), ((x4.drew.alloc _).trans x5).set _ _⟩
theorem putRA (q : Nat) (l : List Ln) (k : Ck) (x : Ln) (R : HProp) (w : World) (hl : Tl.Ok l) (hx : i64 x.m.page) (h : Has w (coreAt q l k * R)) :
    Calls Try.prog 80 #[.pointer (some ⟨q, 0, none⟩), .agg #[(Value.int .i64) x.m.page, (Value.int .i64) x.m.size, (Value.int .i64) x.m.frame, (Value.int .i64) x.m.rights, Value.bool x.dirty]] w (Res (Value.bool (decide (check x.m = 0))) (coreAt q (Tl.put l x) k * R) w) := by
  unfold Tl.put
  by_cases hc : check x.m = 0
  · rw [if_pos hc, decide_eq_true hc]
    exact putR_yes q l k x R w hl.lok hx (Nat.le_trans hl.len (by omega)) hc h
  · rw [if_neg hc, decide_eq_false hc]
    exact putR_no q l k x R w hc h
theorem dropRA (q : Nat) (l : List Ln) (k : Ck) (m : Mp) (R : HProp) (w : World) (hl : Tl.Ok l) (hm : i64 m.page) (h : Has w (coreAt q l k * R)) :
    Calls Try.prog 81 #[.pointer (some ⟨q, 0, none⟩), .agg #[(Value.int .i64) m.page, (Value.int .i64) m.size, (Value.int .i64) m.frame, (Value.int .i64) m.rights]] w (Res ((Value.int .i64) ((l.length : Int) - (Tl.drop l m).length)) (coreAt q (Tl.drop l m) k * R) w) := by
  obtain ⟨A, c, h⟩ := coreAt_open h
  exact (dropR q A c l k m R w hl.lok hm (Nat.le_trans hl.len (by omega)) h).mono fun _ _ ⟨_, _, a, b, c⟩ => ⟨a, coreAt_shut b, c⟩
theorem keptRA (q : Nat) (l : List Ln) (k : Ck) (p : Int) (R : HProp) (w : World) (hl : Tl.Ok l) (hp : i64 p) (h : Has w (coreAt q l k * R)) :
    Calls Try.prog 83 #[.pointer (some ⟨q, 0, none⟩), .int .i64 p] w (Pure ((Value.int .i64) (Tl.idx l p)) w) := by
  obtain ⟨A, c, h⟩ := coreAt_open h
  exact keptR q A c l k p R w hl.lok hp h
end Go.Proofs.Ytndhgomikpokpaa
