/- Contracts of package tlb. -/
import Derived.Test.YtacnjjjdkpbeaaaTlSl3
import Derived.Test.YtacnjjjdkpbeaaaPage
import Derived.Test.YtacnjjjdkpbeaaaRet
namespace Go.Proofs.Ytacnjjjdkpbeaaa
open Go.RowKit
set_option maxRecDepth 100000

theorem load_line {w : World} {R : HProp} {b : Nat} {v0 v1 v2 v3 v4 : Value} (h : Has w (blk b #[v0, v1, v2, v3, v4] 39 * R)) : (loadVar 39 ⟨b, 0, none⟩).run Try.prog w = .ok (.agg #[v0, v1, v2, v3, v4]) w :=
  run_loadVar_row w b 39 39 _ _ _ h.heap Try.underlying39 rfl (by kernel_rfl)
theorem Has.set5 {w : World} {R : HProp} {b : Nat} {v0 v1 v2 v3 v4 : Value} {t : TypeId} (h : Has w (blk b #[v0, v1, v2, v3, v4] t * R)) (u0 u1 u2 u3 u4 : Value) :
    Has (((((w.setCell ⟨b, 0, none⟩ u0).setCell ⟨b, 1, none⟩ u1).setCell ⟨b, 2, none⟩ u2).setCell ⟨b, 3, none⟩ u3).setCell ⟨b, 4, none⟩ u4) (blk b #[u0, u1, u2, u3, u4] t * R) :=
  ((((h.set 0 u0).set 1 u1).set 2 u2).set 3 u3).set 4 u4
theorem Has.frees5 {w : World} {R : HProp} {b : Nat} {v0 v1 v2 v3 v4 : Value} {t : TypeId} (h : Has w (blk b #[v0, v1, v2, v3, v4] t * R)) :
    w.frozen? ⟨b, 0, none⟩ = false ∧ w.frozen? ⟨b, 1, none⟩ = false ∧ w.frozen? ⟨b, 2, none⟩ = false ∧ w.frozen? ⟨b, 3, none⟩ = false ∧ w.frozen? ⟨b, 4, none⟩ = false :=
  ⟨h.free 0, h.free 1, h.free 2, h.free 3, h.free 4⟩

/-- What a core keeps, at block p. -/
def tlbIn (p : Nat) (A : Option Addr) (c : Nat) (l : List Ln) (R : HProp) : HProp := blk p #[.slice A l.length c] 140 * (lrow (.slice A l.length c) l * R)
def tlbAt (p : Nat) (l : List Ln) : HProp := ex fun A => ex fun c => tlbIn p A c l (lift True)
theorem star_lift (R : HProp) : lift True * R = R := by
  funext h
  apply propext
  constructor
  · rintro ⟨h1, h2, d, rfl, ⟨_, rfl⟩, q⟩
    have : Hpm.union Hpm.emp h2 = h2 := by funext b; simp [Hpm.union, Hpm.emp]
    rw [this]
    exact q
  · intro q
    exact ⟨Hpm.emp, h, fun b => .inl rfl, by funext b; simp [Hpm.union, Hpm.emp], ⟨trivial, rfl⟩, q⟩
theorem tlbAt_open {p : Nat} {l : List Ln} {R : HProp} {w : World} (h : Has w (tlbAt p l * R)) : ∃ A c, Has w (tlbIn p A c l R) := by
  unfold tlbAt at h
  obtain ⟨g, h⟩ := has_ex_star.1 h
  obtain ⟨vf, h⟩ := has_ex_star.1 h
  refine ⟨g, vf, ?_⟩
  unfold tlbIn at h ⊢
  simpa only [star_assoc, star_lift] using h
theorem tlbAt_shut {p c : Nat} {A : Option Addr} {l : List Ln} {R : HProp} {w : World} (h : Has w (tlbIn p A c l R)) : Has w (tlbAt p l * R) := by
  unfold tlbAt
  refine has_ex_star.2 ⟨A, has_ex_star.2 ⟨c, ?_⟩⟩
  unfold tlbIn at h ⊢
  simpa only [star_assoc, star_lift] using h
/-- Pages of lines are ints. -/
def LOk (l : List Ln) : Prop := ∀ x ∈ l, i64 x.m.page

theorem newT (R : HProp) (w : World) (h : Has w R) : Calls Try.prog 15 #[] w fun e w' => ∃ p, Res (.pointer (some ⟨p, 0, none⟩)) (tlbAt p [] * R) w e w' := by
  have h1 := h.new #[.slice none 0 0] 140
  have h2 : Has (w.alloc (.cells #[.slice none 0 0] 140)) (tlbIn w.heap.size none 0 [] R) := (Has.rowNil h1).p2
  go_enter Try.func15, Try.ntmps15
  go_wp2
  go_ret
  exact ⟨_, rfl, tlbAt_shut h2, (Ext.refl w).alloc _⟩

theorem find_closure (x : Ln) (k : Int) (X : Nat) (R : HProp) (w : World) (hx : i64 x.m.page) (hk : i64 k) (h : Has w (blk X #[(Value.int .i64) k] 3 * R)) :
    Calls Try.prog 80 #[x.val, .pointer (some ⟨X, 0, none⟩)] w (Pure (Value.bool (over x.m k)) w) := by
  have h1 := h.new #[(Value.int .i64) x.m.page, (Value.int .i64) x.m.size, (Value.int .i64) x.m.frame, (Value.int .i64) x.m.rights, Value.bool x.dirty] 39
  have bl := (Below.refl w.heap.size w).alloc (Nat.le_refl _) (.cells #[(Value.int .i64) x.m.page, (Value.int .i64) x.m.size, (Value.int .i64) x.m.frame, (Value.int .i64) x.m.rights, Value.bool x.dirty] 39)
  have c0 := h1.right.cell 0
  have hX := h1.right.lt
  obtain ⟨d0, d1, d2, d3, d4⟩ := h1.cells5
  go_enter Try.func80, Try.ntmps80
  go_wp2_with (refine (over_page x.m k _ hx hk).mono ?_; rintro e w2 ⟨rfl, b2⟩)
  go_ret
  exact ⟨rfl, bl.trans (b2.mono bl.size)⟩
theorem drop_closure (x : Ln) (m : Mp) (X : Nat) (R : HProp) (w : World) (hx : i64 x.m.page) (hm : i64 m.page) (h : Has w (blk X #[(Value.int .i64) m.page, (Value.int .i64) m.size, (Value.int .i64) m.frame, (Value.int .i64) m.rights] 34 * R)) :
    Calls Try.prog 76 #[x.val, .pointer (some ⟨X, 0, none⟩)] w (Pure (Value.bool (meet x.m m)) w) := by
  have h1 := h.new #[(Value.int .i64) x.m.page, (Value.int .i64) x.m.size, (Value.int .i64) x.m.frame, (Value.int .i64) x.m.rights, Value.bool x.dirty] 39
  have bl := (Below.refl w.heap.size w).alloc (Nat.le_refl _) (.cells #[(Value.int .i64) x.m.page, (Value.int .i64) x.m.size, (Value.int .i64) x.m.frame, (Value.int .i64) x.m.rights, Value.bool x.dirty] 39)
  obtain ⟨c0, c1, c2, c3⟩ := h1.right.cells4
  have hX := h1.right.lt
  obtain ⟨d0, d1, d2, d3, d4⟩ := h1.cells5
  go_enter Try.func76, Try.ntmps76
  go_wp2_with (refine (meet_any x.m m _ hx hm).mono ?_; rintro e w2 ⟨rfl, b2⟩)
  go_ret
  exact ⟨rfl, bl.trans (b2.mono bl.size)⟩

theorem listT (p : Nat) (l : List Ln) (R : HProp) (w : World) (hs : l.length ≤ 1000000) (h : Has w (tlbAt p l * R)) :
    Calls Try.prog 24 #[.pointer (some ⟨p, 0, none⟩)] w (Cloned l w) := by
  obtain ⟨A, c, h⟩ := tlbAt_open h
  have hC := clone_ln l A l.length c _ w hs h.p2
  have c0 := h.cell 0
  have hp := h.lt
  go_enter Try.func24, Try.ntmps24
  go_wp2_with (refine hC.mono ?_; rintro e w2 ⟨A', n', c', rfl, h2, x2⟩)
  go_ret
  exact ⟨A', n', c', rfl, h2, x2⟩
theorem evict_no (p : Nat) (R : HProp) (w : World) (h : Has w (tlbAt p [] * R)) :
    Calls Try.prog 20 #[.pointer (some ⟨p, 0, none⟩)] w (Res (Value.bool false) (tlbAt p [] * R) w) := by
  obtain ⟨A, c, h⟩ := tlbAt_open h
  have c0 : w.cell? ⟨p, 0, none⟩ = some (.slice A 0 c) := h.cell 0
  have hp := h.lt
  go_enter Try.func20, Try.ntmps20
  go_wp2_with fail
  go_ret
  exact ⟨rfl, tlbAt_shut h, Ext.refl _⟩
theorem evict_yes (p : Nat) (l : List Ln) (R : HProp) (w : World) (hl : 0 < l.length) (h : Has w (tlbAt p l * R)) :
    Calls Try.prog 20 #[.pointer (some ⟨p, 0, none⟩)] w (Res (Value.bool true) (tlbAt p l.tail * R) w) := by
  obtain ⟨A, c, h⟩ := tlbAt_open h
  obtain ⟨g, rfl, _⟩ := lrow_at (k := 0) h.right hl
  have hC := delete_ln l 0 1 g l.length c _ w (by omega) (by omega) h.p2
  have hne : ((l.length : Int) == 0) = false := beq_eq_false_iff_ne.2 (by omega)
  have e1 : l.take 0 ++ l.drop 1 = l.tail := by simp
  have e2 : 0 + (l.length - 1) = l.tail.length := by simp
  rw [e1, e2] at hC
  clear e1 e2
  have c0 : w.cell? ⟨p, 0, none⟩ = some (.slice (some ⟨g, 0, none⟩) l.length c) := h.cell 0
  have hp := h.lt
  have hbig := (lrow_small h.right).1
  clear h
  generalize l.tail = l' at *
  go_enter Try.func20, Try.ntmps20
  go_wp2_with (refine hC.mono ?_; rintro e w2 ⟨rfl, h2, x2⟩; have d0 := h2.right.lt; have d1 := h2.right.free 0; have d2 := h2.right.cell 0)
  go_ret
  exact ⟨rfl, tlbAt_shut (h2.p2.set 0 _), x2.set _ _⟩
theorem dropT (p : Nat) (l : List Ln) (m : Mp) (R : HProp) (w : World) (hok : LOk l) (hm : i64 m.page) (h : Has w (tlbAt p l * R)) :
    Calls Try.prog 18 #[.pointer (some ⟨p, 0, none⟩), .agg #[(Value.int .i64) m.page, (Value.int .i64) m.size, (Value.int .i64) m.frame, (Value.int .i64) m.rights]] w (Res ((Value.int .i64) ((l.length : Int) - (Tl.drop l m).length)) (tlbAt p (Tl.drop l m) * R) w) := by
  have hmf : ∀ (fn : Fn) (first cap : Array Value) (w : World), (Instr.makeFunc fn first cap).run Try.prog w = .ok (.func fn first cap) w := fun _ _ _ _ => rfl
  obtain ⟨A, c, h⟩ := tlbAt_open h
  have h1 := h.new #[(Value.int .i64) m.page, (Value.int .i64) m.size, (Value.int .i64) m.frame, (Value.int .i64) m.rights] 34
  have x1 := (Ext.refl w).alloc (.cells #[(Value.int .i64) m.page, (Value.int .i64) m.size, (Value.int .i64) m.frame, (Value.int .i64) m.rights] 34)
  have hbig := (lrow_small h.right).1
  have c0 := h1.right.cell 0
  have hp := h1.right.lt
  have h2 : Has (w.alloc (.cells #[(Value.int .i64) m.page, (Value.int .i64) m.size, (Value.int .i64) m.frame, (Value.int .i64) m.rights] 34)) (lrow (.slice A l.length c) l * (blk w.heap.size #[(Value.int .i64) m.page, (Value.int .i64) m.size, (Value.int .i64) m.frame, (Value.int .i64) m.rights] 34 * (blk p #[.slice A l.length c] 140 * R))) := h1.eq (by unfold tlbIn; (simp only [star_assoc, star_left_comm, star_comm]))
  have hC := deleteFunc_ln l (fun x => meet x.m m) 76 #[.pointer (some ⟨w.heap.size, 0, none⟩)] A l.length c _ _ h2 (enters_of Try.func76 (by kernel_rfl) rfl) (fun x hx W hW => drop_closure x m _ _ W (hok x hx) hm hW)
  have hle : (Tl.drop l m).length ≤ l.length := List.length_filter_le _ _
  have hC2 : Calls Try.prog 75 #[.slice A l.length c, .func (.func 76) #[] #[.pointer (some ⟨w.heap.size, 0, none⟩)]] (w.alloc (.cells #[(Value.int .i64) m.page, (Value.int .i64) m.size, (Value.int .i64) m.frame, (Value.int .i64) m.rights] 34))
      (Res (.slice A (Tl.drop l m).length c) (lrow (.slice A (Tl.drop l m).length c) (Tl.drop l m) * (blk w.heap.size #[(Value.int .i64) m.page, (Value.int .i64) m.size, (Value.int .i64) m.frame, (Value.int .i64) m.rights] 34 * (blk p #[.slice A l.length c] 140 * R))) (w.alloc (.cells #[(Value.int .i64) m.page, (Value.int .i64) m.size, (Value.int .i64) m.frame, (Value.int .i64) m.rights] 34))) := hC
  clear hC h2 h1 h
  generalize Tl.drop l m = l' at *
  go_enter Try.func18, Try.ntmps18
  go_wp2_with (refine hC2.mono ?_; rintro e w2 ⟨rfl, h2, x2⟩; have d0 := h2.right.right.lt; have d1 := h2.right.right.free 0; have d2 := h2.right.right.cell 0)
  have h3 : Has w2 (blk p #[.slice A l.length c] 140 * (lrow (.slice A l'.length c) l' * R)) := h2.p2.right.p2
  go_ret
  exact ⟨by go_num, tlbAt_shut (h3.set 0 _), (x1.trans x2).set _ _⟩

def lnOf : Option Ln → Value
  | none => lnZero
  | some x => x.val
theorem findT (p : Nat) (l : List Ln) (k : Int) (R : HProp) (w : World) (hok : LOk l) (hk : i64 k) (h : Has w (tlbAt p l * R)) :
    Calls Try.prog 21 #[.pointer (some ⟨p, 0, none⟩), .int .i64 k] w (Pure (.tuple #[lnOf (Tl.find l k), Value.bool (Tl.find l k).isSome]) w) := by
  have hmf : ∀ (fn : Fn) (first cap : Array Value) (w : World), (Instr.makeFunc fn first cap).run Try.prog w = .ok (.func fn first cap) w := fun _ _ _ _ => rfl
  obtain ⟨A, c, h⟩ := tlbAt_open h
  have h1 := h.new #[(Value.int .i64) k] 3
  have h2 := h1.new #[(Value.int .i64) 0, (Value.int .i64) 0, (Value.int .i64) 0, (Value.int .i64) 0, Value.bool false] 39
  have H2 := ((has_old w).new #[(Value.int .i64) k] 3).new #[(Value.int .i64) 0, (Value.int .i64) 0, (Value.int .i64) 0, (Value.int .i64) 0, Value.bool false] 39
  have x2 := ((Ext.refl w).alloc (.cells #[(Value.int .i64) k] 3)).alloc (.cells #[(Value.int .i64) 0, (Value.int .i64) 0, (Value.int .i64) 0, (Value.int .i64) 0, Value.bool false] 39)
  simp only [World.size_alloc] at h2 H2
  have hbig := (lrow_small h.right).1
  have hL : Has ((w.alloc (.cells #[(Value.int .i64) k] 3)).alloc (.cells #[(Value.int .i64) 0, (Value.int .i64) 0, (Value.int .i64) 0, (Value.int .i64) 0, Value.bool false] 39)) (lrow (.slice A l.length c) l * (blk w.heap.size #[(Value.int .i64) k] 3 * (blk (w.heap.size + 1) #[(Value.int .i64) 0, (Value.int .i64) 0, (Value.int .i64) 0, (Value.int .i64) 0, Value.bool false] 39 * (blk p #[.slice A l.length c] 140 * R)))) := h2.eq (by unfold tlbIn; (simp only [star_assoc, star_left_comm, star_comm]))
  have hC := indexFunc_ln l (fun x => over x.m k) 80 #[.pointer (some ⟨w.heap.size, 0, none⟩)] A l.length c _ _ hL (enters_of Try.func80 (by kernel_rfl) rfl) (fun x hx W hW => find_closure x k _ _ W (hok x hx) hk hW)
  have c0 := h2.right.right.cell 0
  have hp := h2.right.right.lt
  have he : fidx (fun x => over x.m k) l = Tl.idx l k := rfl
  rw [he] at hC
  clear he h h1 h2
  rcases Tl.idx_find l k with ⟨e1, e2⟩ | ⟨j, hj, e1, e2, _⟩
  · rw [e1]
    rw [e2] at hC
    clear e1 e2
    go_enter Try.func21, Try.ntmps21
    go_wp2_with (refine hC.mono ?_; rintro e w2 ⟨rfl, b2⟩; have H3 := H2.below b2; have x3 := x2.below b2; obtain ⟨d0, d1, d2, d3, d4⟩ := H3.cells5; obtain ⟨f0, f1, f2, f3, f4⟩ := H3.frees5; have fl := H3.lt)
    refine ret_via (fun wz => Has wz (blk (w.heap.size + 1) #[(Value.int .i64) 0, (Value.int .i64) 0, (Value.int .i64) 0, (Value.int .i64) 0, Value.bool false] 39 * (blk w.heap.size #[(Value.int .i64) k] 3 * old w w.heap.size)) ∧ Ext w wz) ⟨H3.set5 _ _ _ _ _, by (repeat (first | with_reducible assumption | with_reducible exact Ext.refl _ | with_reducible refine Ext.set ?_ _ _ | with_reducible refine Ext.alloc ?_ _ | with_reducible refine Ext.drew ?_ | with_reducible refine Ext.drewN ?_ _ | assumption | exact Ext.refl _ | refine Ext.alloc ?_ _ | refine Ext.set ?_ _ _ | refine Ext.drew ?_ | refine Ext.drewN ?_ _ | refine Ext.below ?_ (by assumption) | refine Ext.trans ?_ (by assumption)))⟩ ?_
    rintro wz ⟨hz, xz⟩
    exact bodyPost_ret (results_ct Try.results21 rfl rfl (load_line hz)) rfl ⟨rfl, below_of1 hz.right.right xz⟩
  · rw [e2]
    rw [e1] at hC
    clear e1 e2
    go_enter Try.func21, Try.ntmps21
    go_wp2_with (refine hC.mono ?_; rintro e w2 ⟨rfl, b2⟩; have H3 := H2.below b2; have x3 := x2.below b2; obtain ⟨d0, d1, d2, d3, d4⟩ := H3.cells5; obtain ⟨f0, f1, f2, f3, f4⟩ := H3.frees5; have fl := H3.lt; have k0 := (hL.below b2).right.right.right.cell 0; have kp := (hL.below b2).right.right.right.lt; obtain ⟨g, rfl, gb, ⟨g0, g1, g2, g3, g4⟩, _⟩ := lrow_at (hL.below b2) hj)
    generalize l[j] = x at *
    refine ret_via (fun wz => Has wz (blk (w.heap.size + 1) #[(Value.int .i64) x.m.page, (Value.int .i64) x.m.size, (Value.int .i64) x.m.frame, (Value.int .i64) x.m.rights, Value.bool x.dirty] 39 * (blk w.heap.size #[(Value.int .i64) k] 3 * old w w.heap.size)) ∧ Ext w wz) ⟨H3.set5 _ _ _ _ _, by (repeat (first | with_reducible assumption | with_reducible exact Ext.refl _ | with_reducible refine Ext.set ?_ _ _ | with_reducible refine Ext.alloc ?_ _ | with_reducible refine Ext.drew ?_ | with_reducible refine Ext.drewN ?_ _ | assumption | exact Ext.refl _ | refine Ext.alloc ?_ _ | refine Ext.set ?_ _ _ | refine Ext.drew ?_ | refine Ext.drewN ?_ _ | refine Ext.below ?_ (by assumption) | refine Ext.trans ?_ (by assumption)))⟩ ?_
    rintro wz ⟨hz, xz⟩
    exact bodyPost_ret (results_ct Try.results21 rfl rfl (load_line hz)) rfl ⟨rfl, below_of1 hz.right.right xz⟩
end Go.Proofs.Ytacnjjjdkpbeaaa
