/- Contracts of package tlb. -/
import Derived.Test.YtndhgomikpokpaaTlSl
import Derived.Test.YtndhgomikpokpaaPage
import Derived.Test.YtndhgomikpokpaaRet
namespace Go.Proofs.Ytndhgomikpokpaa
open Go.RowKit
set_option maxRecDepth 100000

theorem load_line {w : World} {R : HProp} {b : Nat} {v0 v1 v2 v3 v4 : Value} (h : Has w (blk b #[v0, v1, v2, v3, v4] 51 * R)) : (loadVar 51 ⟨b, 0, none⟩).run Try.prog w = .ok (.agg #[v0, v1, v2, v3, v4]) w :=
  run_loadVar_row w b 51 51 _ _ _ h.heap Try.underlying51 rfl (by kernel_rfl)
theorem Has.set5 {w : World} {R : HProp} {b : Nat} {v0 v1 v2 v3 v4 : Value} {t : TypeId} (h : Has w (blk b #[v0, v1, v2, v3, v4] t * R)) (u0 u1 u2 u3 u4 : Value) :
    Has (((((w.setCell ⟨b, 0, none⟩ u0).setCell ⟨b, 1, none⟩ u1).setCell ⟨b, 2, none⟩ u2).setCell ⟨b, 3, none⟩ u3).setCell ⟨b, 4, none⟩ u4) (blk b #[u0, u1, u2, u3, u4] t * R) :=
  ((((h.set 0 u0).set 1 u1).set 2 u2).set 3 u3).set 4 u4
theorem Has.frees5 {w : World} {R : HProp} {b : Nat} {v0 v1 v2 v3 v4 : Value} {t : TypeId} (h : Has w (blk b #[v0, v1, v2, v3, v4] t * R)) :
    w.frozen? ⟨b, 0, none⟩ = false ∧ w.frozen? ⟨b, 1, none⟩ = false ∧ w.frozen? ⟨b, 2, none⟩ = false ∧ w.frozen? ⟨b, 3, none⟩ = false ∧ w.frozen? ⟨b, 4, none⟩ = false :=
  ⟨h.free 0, h.free 1, h.free 2, h.free 3, h.free 4⟩

/-- What a core keeps, at block p. -/
def tlbIn (p : Nat) (A : Option Addr) (c : Nat) (l : List Ln) (R : HProp) : HProp := blk p #[.slice A l.length c] 198 * (lrow (.slice A l.length c) l * R)
def tlbAt (p : Nat) (l : List Ln) : HProp := ex fun A => ex fun c => tlbIn p A c l (lift True)
theorem star_lift (R : HProp) : lift True * R = R := by
  funext h
  apply propext
  constructor
  · rintro ⟨h1, h2, d, rfl, ⟨_, rfl⟩, q⟩
    have : Hpm.union Hpm.emp h2 = h2 := by funext b; simp [Hpm.union, Hpm.emp]
    rw [this]
    exact q
  · intro q
    exact ⟨Hpm.emp, h, fun b => .inl rfl, by funext b; simp [Hpm.union, Hpm.emp], ⟨trivial, rfl⟩, q⟩
theorem tlbAt_open {p : Nat} {l : List Ln} {R : HProp} {w : World} (h : Has w (tlbAt p l * R)) : ∃ A c, Has w (tlbIn p A c l R) := by
  unfold tlbAt at h
  obtain ⟨g, h⟩ := has_ex_star.1 h
  obtain ⟨vf, h⟩ := has_ex_star.1 h
  refine ⟨g, vf, ?_⟩
  unfold tlbIn at h ⊢
  simpa only [star_assoc, star_lift] using h
theorem tlbAt_shut {p c : Nat} {A : Option Addr} {l : List Ln} {R : HProp} {w : World} (h : Has w (tlbIn p A c l R)) : Has w (tlbAt p l * R) := by
  unfold tlbAt
  refine has_ex_star.2 ⟨A, has_ex_star.2 ⟨c, ?_⟩⟩
  unfold tlbIn at h ⊢
  simpa only [star_assoc, star_lift] using h
/-- Pages of lines are ints. -/
def LOk (l : List Ln) : Prop := ∀ x ∈ l, i64 x.m.page

theorem newT (R : HProp) (w : World) (h : Has w R) : Calls Try.prog 124 #[] w fun e w' => ∃ p, Res (.pointer (some ⟨p, 0, none⟩)) (tlbAt p [] * R) w e w' := by
  have h1 := h.new #[.slice none 0 0] 198
  have h2 : Has (w.alloc (.cells #[.slice none 0 0] 198)) (tlbIn w.heap.size none 0 [] R) := (Has.rowNil h1).p2
  go_enter Try.func124, Try.ntmps124
  go_wp2
  go_ret
  exact ⟨_, rfl, tlbAt_shut h2, (Ext.refl w).alloc _⟩

theorem find_closure (x : Ln) (k : Int) (X : Nat) (R : HProp) (w : World) (hx : i64 x.m.page) (hk : i64 k) (h : Has w (blk X #[(Value.int .i64) k] 3 * R)) :
    Calls Try.prog 129 #[x.val, .pointer (some ⟨X, 0, none⟩)] w (Pure (Value.bool (over x.m k)) w) := by
  have h1 := h.new #[(Value.int .i64) x.m.page, (Value.int .i64) x.m.size, (Value.int .i64) x.m.frame, (Value.int .i64) x.m.rights, Value.bool x.dirty] 51
  have bl := (Below.refl w.heap.size w).alloc (Nat.le_refl _) (.cells #[(Value.int .i64) x.m.page, (Value.int .i64) x.m.size, (Value.int .i64) x.m.frame, (Value.int .i64) x.m.rights, Value.bool x.dirty] 51)
  have c0 := h1.right.cell 0
  have hX := h1.right.lt
  obtain ⟨d0, d1, d2, d3, d4⟩ := h1.cells5
  go_enter Try.func129, Try.ntmps129
  go_wp2_with (refine (over_page x.m k _ hx hk).mono ?_; rintro e w2 ⟨rfl, b2⟩)
  go_ret
  exact ⟨rfl, bl.trans (b2.mono bl.size)⟩
theorem drop_closure (x : Ln) (m : Mp) (X : Nat) (R : HProp) (w : World) (hx : i64 x.m.page) (hm : i64 m.page) (h : Has w (blk X #[(Value.int .i64) m.page, (Value.int .i64) m.size, (Value.int .i64) m.frame, (Value.int .i64) m.rights] 27 * R)) :
    Calls Try.prog 146 #[x.val, .pointer (some ⟨X, 0, none⟩)] w (Pure (Value.bool (meet x.m m)) w) := by
  have h1 := h.new #[(Value.int .i64) x.m.page, (Value.int .i64) x.m.size, (Value.int .i64) x.m.frame, (Value.int .i64) x.m.rights, Value.bool x.dirty] 51
  have bl := (Below.refl w.heap.size w).alloc (Nat.le_refl _) (.cells #[(Value.int .i64) x.m.page, (Value.int .i64) x.m.size, (Value.int .i64) x.m.frame, (Value.int .i64) x.m.rights, Value.bool x.dirty] 51)
  obtain ⟨c0, c1, c2, c3⟩ := h1.right.cells4
  have hX := h1.right.lt
  obtain ⟨d0, d1, d2, d3, d4⟩ := h1.cells5
  go_enter Try.func146, Try.ntmps146
  go_wp2_with (refine (meet_any x.m m _ hx hm).mono ?_; rintro e w2 ⟨rfl, b2⟩)
  go_ret
  exact ⟨rfl, bl.trans (b2.mono bl.size)⟩

theorem listT (p : Nat) (l : List Ln) (R : HProp) (w : World) (hs : l.length ≤ 1000000) (h : Has w (tlbAt p l * R)) :
    Calls Try.prog 77 #[.pointer (some ⟨p, 0, none⟩)] w (Cloned l w) := by
  obtain ⟨A, c, h⟩ := tlbAt_open h
  have hC := clone_ln l A l.length c _ w hs h.p2
  have c0 := h.cell 0
  have hp := h.lt
  go_enter Try.func77, Try.ntmps77
  go_wp2_with (refine hC.mono ?_; rintro e w2 ⟨A', n', c', rfl, h2, x2⟩)
  go_ret
  exact ⟨A', n', c', rfl, h2, x2⟩
theorem evict_no (p : Nat) (R : HProp) (w : World) (h : Has w (tlbAt p [] * R)) :
    Calls Try.prog 82 #[.pointer (some ⟨p, 0, none⟩)] w (Res (Value.bool false) (tlbAt p [] * R) w) := by
  obtain ⟨A, c, h⟩ := tlbAt_open h
  have c0 : w.cell? ⟨p, 0, none⟩ = some (.slice A 0 c) := h.cell 0
  have hp := h.lt
  go_enter Try.func82, Try.ntmps82
  go_wp2_with fail
  go_ret
  exact ⟨rfl, tlbAt_shut h, Ext.refl _⟩
theorem evict_yes (p : Nat) (l : List Ln) (R : HProp) (w : World) (hl : 0 < l.length) (h : Has w (tlbAt p l * R)) :
    Calls Try.prog 82 #[.pointer (some ⟨p, 0, none⟩)] w (Res (Value.bool true) (tlbAt p l.tail * R) w) := by
  obtain ⟨A, c, h⟩ := tlbAt_open h
  obtain ⟨g, rfl, _⟩ := lrow_at (k := 0) h.right hl
  have hC := delete_ln l 0 1 g l.length c _ w (by omega) (by omega) h.p2
  have hne : ((l.length : Int) == 0) = false := beq_eq_false_iff_ne.2 (by omega)
  have e1 : l.take 0 ++ l.drop 1 = l.tail := by simp
  have e2 : 0 + (l.length - 1) = l.tail.length := by simp
  rw [e1, e2] at hC
  clear e1 e2
  have c0 : w.cell? ⟨p, 0, none⟩ = some (.slice (some ⟨g, 0, none⟩) l.length c) := h.cell 0
  have hp := h.lt
  have hbig := (lrow_small h.right).1
  clear h
  generalize l.tail = l' at *
  go_enter Try.func82, Try.ntmps82
  go_wp2_with (refine hC.mono ?_; rintro e w2 ⟨rfl, h2, x2⟩; have d0 := h2.right.lt; have d1 := h2.right.free 0; have d2 := h2.right.cell 0)
  go_ret
  exact ⟨rfl, tlbAt_shut (h2.p2.set 0 _), x2.set _ _⟩
theorem dropT (p : Nat) (l : List Ln) (m : Mp) (R : HProp) (w : World) (hok : LOk l) (hm : i64 m.page) (h : Has w (tlbAt p l * R)) :
    Calls Try.prog 131 #[.pointer (some ⟨p, 0, none⟩), .agg #[(Value.int .i64) m.page, (Value.int .i64) m.size, (Value.int .i64) m.frame, (Value.int .i64) m.rights]] w (Res ((Value.int .i64) ((l.length : Int) - (Tl.drop l m).length)) (tlbAt p (Tl.drop l m) * R) w) := by
  have hmf : ∀ (fn : Fn) (first cap : Array Value) (w : World), (Instr.makeFunc fn first cap).run Try.prog w = .ok (.func fn first cap) w := fun _ _ _ _ => rfl
  obtain ⟨A, c, h⟩ := tlbAt_open h
  have h1 := h.new #[(Value.int .i64) m.page, (Value.int .i64) m.size, (Value.int .i64) m.frame, (Value.int .i64) m.rights] 27
  have x1 := (Ext.refl w).alloc (.cells #[(Value.int .i64) m.page, (Value.int .i64) m.size, (Value.int .i64) m.frame, (Value.int .i64) m.rights] 27)
  have hbig := (lrow_small h.right).1
  have c0 := h1.right.cell 0
  have hp := h1.right.lt
  have h2 : Has (w.alloc (.cells #[(Value.int .i64) m.page, (Value.int .i64) m.size, (Value.int .i64) m.frame, (Value.int .i64) m.rights] 27)) (lrow (.slice A l.length c) l * (blk w.heap.size #[(Value.int .i64) m.page, (Value.int .i64) m.size, (Value.int .i64) m.frame, (Value.int .i64) m.rights] 27 * (blk p #[.slice A l.length c] 198 * R))) := h1.eq (by unfold tlbIn; (simp only [star_assoc, star_left_comm, star_comm]))
  have hC := deleteFunc_ln l (fun x => meet x.m m) 146 #[.pointer (some ⟨w.heap.size, 0, none⟩)] A l.length c _ _ h2 (enters_of Try.func146 (by kernel_rfl) rfl) (fun x hx W hW => drop_closure x m _ _ W (hok x hx) hm hW)
  have hle : (Tl.drop l m).length ≤ l.length := List.length_filter_le _ _
  have hC2 : Calls Try.prog 145 #[.slice A l.length c, .func (.func 146) #[] #[.pointer (some ⟨w.heap.size, 0, none⟩)]] (w.alloc (.cells #[(Value.int .i64) m.page, (Value.int .i64) m.size, (Value.int .i64) m.frame, (Value.int .i64) m.rights] 27))
      (Res (.slice A (Tl.drop l m).length c) (lrow (.slice A (Tl.drop l m).length c) (Tl.drop l m) * (blk w.heap.size #[(Value.int .i64) m.page, (Value.int .i64) m.size, (Value.int .i64) m.frame, (Value.int .i64) m.rights] 27 * (blk p #[.slice A l.length c] 198 * R))) (w.alloc (.cells #[(Value.int .i64) m.page, (Value.int .i64) m.size, (Value.int .i64) m.frame, (Value.int .i64) m.rights] 27))) := hC
  clear hC h2 h1 h
  generalize Tl.drop l m = l' at *
  go_enter Try.func131, Try.ntmps131
  go_wp2_with (refine hC2.mono ?_; rintro e w2 ⟨rfl, h2, x2⟩; have d0 := h2.right.right.lt; have d1 := h2.right.right.free 0; have d2 := h2.right.right.cell 0)
  have h3 : Has w2 (blk p #[.slice A l.length c] 198 * (lrow (.slice A l'.length c) l' * R)) := h2.p2.right.p2
  go_ret
  exact ⟨by go_num, tlbAt_shut (h3.set 0 _), (x1.trans x2).set _ _⟩

def lnOf : Option Ln → Value
  | none => lnZero
  | some x => x.val
theorem findT (p : Nat) (l : List Ln) (k : Int) (R : HProp) (w : World) (hok : LOk l) (hk : i64 k) (h : Has w (tlbAt p l * R)) :
    Calls Try.prog 78 #[.pointer (some ⟨p, 0, none⟩), .int .i64 k] w (Pure (.tuple #[lnOf (Tl.find l k), Value.bool (Tl.find l k).isSome]) w) := by
  have hmf : ∀ (fn : Fn) (first cap : Array Value) (w : World), (Instr.makeFunc fn first cap).run Try.prog w = .ok (.func fn first cap) w := fun _ _ _ _ => rfl
  obtain ⟨A, c, h⟩ := tlbAt_open h
  have h1 := h.new #[(Value.int .i64) k] 3
  have h2 := h1.new #[(Value.int .i64) 0, (Value.int .i64) 0, (Value.int .i64) 0, (Value.int .i64) 0, Value.bool false] 51
  have H2 := ((has_old w).new #[(Value.int .i64) k] 3).new #[(Value.int .i64) 0, (Value.int .i64) 0, (Value.int .i64) 0, (Value.int .i64) 0, Value.bool false] 51
  have x2 := ((Ext.refl w).alloc (.cells #[(Value.int .i64) k] 3)).alloc (.cells #[(Value.int .i64) 0, (Value.int .i64) 0, (Value.int .i64) 0, (Value.int .i64) 0, Value.bool false] 51)
  simp only [World.size_alloc] at h2 H2
  have hbig := (lrow_small h.right).1
  have hL : Has ((w.alloc (.cells #[(Value.int .i64) k] 3)).alloc (.cells #[(Value.int .i64) 0, (Value.int .i64) 0, (Value.int .i64) 0, (Value.int .i64) 0, Value.bool false] 51)) (lrow (.slice A l.length c) l * (blk w.heap.size #[(Value.int .i64) k] 3 * (blk (w.heap.size + 1) #[(Value.int .i64) 0, (Value.int .i64) 0, (Value.int .i64) 0, (Value.int .i64) 0, Value.bool false] 51 * (blk p #[.slice A l.length c] 198 * R)))) := h2.eq (by unfold tlbIn; (simp only [star_assoc, star_left_comm, star_comm]))
  have hC := indexFunc_ln l (fun x => over x.m k) 129 #[.pointer (some ⟨w.heap.size, 0, none⟩)] A l.length c _ _ hL (enters_of Try.func129 (by kernel_rfl) rfl) (fun x hx W hW => find_closure x k _ _ W (hok x hx) hk hW)
  have c0 := h2.right.right.cell 0
  have hp := h2.right.right.lt
  have he : fidx (fun x => over x.m k) l = Tl.idx l k := rfl
  rw [he] at hC
  clear he h h1 h2
  rcases Tl.idx_find l k with ⟨e1, e2⟩ | ⟨j, hj, e1, e2, _⟩
  · rw [e1]
    rw [e2] at hC
    clear e1 e2
    go_enter Try.func78, Try.ntmps78
    go_wp2_with (refine hC.mono ?_; rintro e w2 ⟨rfl, b2⟩; have H3 := H2.below b2; have x3 := x2.below b2; obtain ⟨d0, d1, d2, d3, d4⟩ := H3.cells5; obtain ⟨f0, f1, f2, f3, f4⟩ := H3.frees5; have fl := H3.lt)
    refine ret_via (fun wz => Has wz (blk (w.heap.size + 1) #[(Value.int .i64) 0, (Value.int .i64) 0, (Value.int .i64) 0, (Value.int .i64) 0, Value.bool false] 51 * (blk w.heap.size #[(Value.int .i64) k] 3 * old w w.heap.size)) ∧ Ext w wz) ⟨H3.set5 _ _ _ _ _, by (repeat (first | with_reducible assumption | with_reducible exact Ext.refl _ | with_reducible refine Ext.set ?_ _ _ | with_reducible refine Ext.alloc ?_ _ | with_reducible refine Ext.drew ?_ | with_reducible refine Ext.drewN ?_ _ | assumption | exact Ext.refl _ | refine Ext.alloc ?_ _ | refine Ext.set ?_ _ _ | refine Ext.drew ?_ | refine Ext.drewN ?_ _ | refine Ext.below ?_ (by assumption) | refine Ext.trans ?_ (by assumption)))⟩ ?_
    rintro wz ⟨hz, xz⟩
    exact bodyPost_ret (results_ct Try.results78 rfl rfl (load_line hz)) rfl ⟨rfl, below_of1 hz.right.right xz⟩
  · rw [e2]
    rw [e1] at hC
    clear e1 e2
    go_enter Try.func78, Try.ntmps78
    go_wp2_with (refine hC.mono ?_; rintro e w2 ⟨rfl, b2⟩; have H3 := H2.below b2; have x3 := x2.below b2; obtain ⟨d0, d1, d2, d3, d4⟩ := H3.cells5; obtain ⟨f0, f1, f2, f3, f4⟩ := H3.frees5; have fl := H3.lt; have k0 := (hL.below b2).right.right.right.cell 0; have kp := (hL.below b2).right.right.right.lt; obtain ⟨g, rfl, gb, ⟨g0, g1, g2, g3, g4⟩, _⟩ := lrow_at (hL.below b2) hj)
    generalize l[j] = x at *
    refine ret_via (fun wz => Has wz (blk (w.heap.size + 1) #[(Value.int .i64) x.m.page, (Value.int .i64) x.m.size, (Value.int .i64) x.m.frame, (Value.int .i64) x.m.rights, Value.bool x.dirty] 51 * (blk w.heap.size #[(Value.int .i64) k] 3 * old w w.heap.size)) ∧ Ext w wz) ⟨H3.set5 _ _ _ _ _, by (repeat (first | with_reducible assumption | with_reducible exact Ext.refl _ | with_reducible refine Ext.set ?_ _ _ | with_reducible refine Ext.alloc ?_ _ | with_reducible refine Ext.drew ?_ | with_reducible refine Ext.drewN ?_ _ | assumption | exact Ext.refl _ | refine Ext.alloc ?_ _ | refine Ext.set ?_ _ _ | refine Ext.drew ?_ | refine Ext.drewN ?_ _ | refine Ext.below ?_ (by assumption) | refine Ext.trans ?_ (by assumption)))⟩ ?_
    rintro wz ⟨hz, xz⟩
    exact bodyPost_ret (results_ct Try.results78 rfl rfl (load_line hz)) rfl ⟨rfl, below_of1 hz.right.right xz⟩
end Go.Proofs.Ytndhgomikpokpaa

namespace Go.Proofs.Ytndhgomikpokpaa
open Go.RowKit
set_option maxRecDepth 100000

theorem oneCells (x : Ln) : ∀ u ∈ x.cells, u.oneCell' = true := by
  intro u hx
  simp [Ln.cells] at hx
  rcases hx with rfl | rfl | rfl | rfl | rfl <;> rfl
theorem put_shut {p c X : Nat} {A : Option Addr} {l : List Ln} {x : Ln} {cs : Array Value} {t : TypeId} {R : HProp} {w : World} (h : Has w (blk p #[.slice A (l.length + 1) c] 198 * (row 51 5 (.slice A (l.length + 1) c) (l.length + 1) (lcells l ++ x.cells) * (blk X cs t * R)))) :
    Has w (tlbAt p (l ++ [x]) * R) := by
  have h1 := h.drop3
  refine tlbAt_shut (A := A) (c := c) ?_
  unfold tlbIn lrow
  rw [show (l ++ [x]).length = l.length + 1 by simp, lcells_append, show lcells [x] = x.cells by simp [lcells]]
  exact h1
theorem put_no (p : Nat) (l : List Ln) (x : Ln) (R : HProp) (w : World) (hc : check x.m ≠ 0) (h : Has w (tlbAt p l * R)) :
    Calls Try.prog 126 #[.pointer (some ⟨p, 0, none⟩), .agg #[(Value.int .i64) x.m.page, (Value.int .i64) x.m.size, (Value.int .i64) x.m.frame, (Value.int .i64) x.m.rights, Value.bool x.dirty]] w (Res (Value.bool false) (tlbAt p l * R) w) := by
  have h1 := h.new #[(Value.int .i64) x.m.page, (Value.int .i64) x.m.size, (Value.int .i64) x.m.frame, (Value.int .i64) x.m.rights, Value.bool x.dirty] 51
  have x1 := (Ext.refl w).alloc (.cells #[(Value.int .i64) x.m.page, (Value.int .i64) x.m.size, (Value.int .i64) x.m.frame, (Value.int .i64) x.m.rights, Value.bool x.dirty] 51)
  obtain ⟨d0, d1, d2, d3, d4⟩ := h1.cells5
  have hn : (check x.m != 0) = true := by simpa using hc
  have HC := Lib.hid (check_any x.m)
  generalize check x.m = k at *
  go_enter Try.func126, Try.ntmps126
  go_wp2_with (refine (HC.out _).mono ?_; rintro e w2 ⟨rfl, b2⟩)
  go_ret
  exact ⟨rfl, h1.right.below b2, x1.below b2⟩
theorem put_yes (p : Nat) (l : List Ln) (x : Ln) (R : HProp) (w : World) (hok : LOk l) (hx : i64 x.m.page) (hl : l.length ≤ 1000) (hc : check x.m = 0) (h : Has w (tlbAt p l * R)) :
    Calls Try.prog 126 #[.pointer (some ⟨p, 0, none⟩), .agg #[(Value.int .i64) x.m.page, (Value.int .i64) x.m.size, (Value.int .i64) x.m.frame, (Value.int .i64) x.m.rights, Value.bool x.dirty]] w (Res (Value.bool true) (tlbAt p (Tl.room (Tl.drop l x.m) ++ [x]) * R) w) := by
  have h1 := h.new #[(Value.int .i64) x.m.page, (Value.int .i64) x.m.size, (Value.int .i64) x.m.frame, (Value.int .i64) x.m.rights, Value.bool x.dirty] 51
  have x1 := (Ext.refl w).alloc (.cells #[(Value.int .i64) x.m.page, (Value.int .i64) x.m.size, (Value.int .i64) x.m.frame, (Value.int .i64) x.m.rights, Value.bool x.dirty] 51)
  obtain ⟨d0, d1, d2, d3, d4⟩ := h1.cells5
  have HC := Lib.hid (check_any x.m)
  rw [hc] at HC
  have HD := Lib.hid (fun R w h => dropT p l x.m R w hok hx h)
  have hle : (Tl.drop l x.m).length ≤ l.length := List.length_filter_le _ _
  clear hc
  generalize Tl.drop l x.m = l1 at *
  by_cases h6 : l1.length = 6
  · have hr : Tl.room l1 = l1.tail := by unfold Tl.room; rw [if_pos h6]
    rw [hr]
    go_enter Try.func126, Try.ntmps126
    go_wp2_with fail
    refine (HC.out _).mono ?_; rintro e w2 ⟨rfl, b2⟩
    have h2 := h1.below b2
    have x2 := x1.below b2
    clear d0 d1 d2 d3 d4
    obtain ⟨d0, d1, d2, d3, d4⟩ := h2.cells5
    go_wp2_with fail
    refine (HD.out _ _ h2.p2).mono ?_; rintro e w3 ⟨rfl, h3, x3⟩
    have x3 := x2.trans x3
    obtain ⟨A, c, h3o⟩ := tlbAt_open h3
    have c0 : w3.cell? ⟨p, 0, none⟩ = some (.slice A l1.length c) := h3o.cell 0
    rw [h6] at c0
    have cp := h3o.lt
    clear d0 d1 d2 d3 d4 h1 h2 x1 x2 h HC HD
    go_wp2_with fail
    refine (evict_yes p l1 _ _ (by omega) h3).mono ?_; rintro e wz ⟨rfl, h4, x4⟩
    have hl' : l1.tail.length ≤ 1000 := by simp [h6]
    generalize l1.tail = l2 at *
    have x4 := x3.trans x4
    obtain ⟨A, c, h4⟩ := tlbAt_open h4
    clear c0 cp h3o h3 hle h6 hr x3
    go_wp2_with fail
    have hsm := (lrow_small h4.right).1
    have c0 := h4.cell 0
    have cp := h4.lt
    have cf := h4.free 0
    obtain ⟨d0, d1, d2, d3, d4⟩ := h4.right.right.cells5
    have dl := h4.right.right.lt
    have hrow := (h4.drew.p2).alloc (.cells #[(Value.int .i64) x.m.page, (Value.int .i64) x.m.size, (Value.int .i64) x.m.frame, (Value.int .i64) x.m.rights, Value.bool x.dirty] 51)
    go_region_law (refine step_append_has rfl (.tmp 25) (.tmp 27) 136 rfl Try.underlying136 elemLn _ _ _ (by simp [Act.eval]) hrow ⟨wz.heap.size, 0, none⟩ 1 1 x.cells (by simp [Act.eval]) rfl (news_many wz.drew x.cells 51) (oneCells x) (by unfold maxLen; omega) (by omega) ?_; intro A' c' w5 h5 x5; have g0 := h5.right.lt; have g1 := h5.right.free 0; have g2 := h5.right.cell 0)
    all_goals
      go_wp2_with fail
      go_ret
      exact ⟨rfl, put_shut (h5.p2.set 0 _), ((x4.drew.alloc _).trans x5).set _ _⟩
  · have hr : Tl.room l1 = l1 := by unfold Tl.room; rw [if_neg h6]
    rw [hr]
    have h6' : ((l1.length : Int) == 6) = false := beq_eq_false_iff_ne.2 (by omega)
    clear hr h6
    go_enter Try.func126, Try.ntmps126
    go_wp2_with fail
    refine (HC.out _).mono ?_; rintro e w2 ⟨rfl, b2⟩
    have h2 := h1.below b2
    have x2 := x1.below b2
    clear d0 d1 d2 d3 d4
    obtain ⟨d0, d1, d2, d3, d4⟩ := h2.cells5
    go_wp2_with fail
    refine (HD.out _ _ h2.p2).mono ?_; rintro e wz ⟨rfl, h3, x3⟩
    have x4 := x2.trans x3
    obtain ⟨A, c, h4⟩ := tlbAt_open h3
    clear d0 d1 d2 d3 d4 h1 h2 x1 x2 h HC HD h3
    have hl' : l1.length ≤ 1000 := by omega
    clear hle
    have c0 : wz.cell? ⟨p, 0, none⟩ = some (.slice A l1.length c) := h4.cell 0
    have cp := h4.lt
    go_wp2_with fail
    have hsm := (lrow_small h4.right).1
    have c0 := h4.cell 0
    have cp := h4.lt
    have cf := h4.free 0
    obtain ⟨d0, d1, d2, d3, d4⟩ := h4.right.right.cells5
    have dl := h4.right.right.lt
    have hrow := (h4.drew.p2).alloc (.cells #[(Value.int .i64) x.m.page, (Value.int .i64) x.m.size, (Value.int .i64) x.m.frame, (Value.int .i64) x.m.rights, Value.bool x.dirty] 51)
    go_region_law (refine step_append_has rfl (.tmp 25) (.tmp 27) 136 rfl Try.underlying136 elemLn _ _ _ (by simp [Act.eval]) hrow ⟨wz.heap.size, 0, none⟩ 1 1 x.cells (by simp [Act.eval]) rfl (news_many wz.drew x.cells 51) (oneCells x) (by unfold maxLen; omega) (by omega) ?_; intro A' c' w5 h5 x5; have g0 := h5.right.lt; have g1 := h5.right.free 0; have g2 := h5.right.cell 0)
    all_goals
      go_wp2_with fail
      go_ret
      exact ⟨rfl, put_shut (h5.p2.set 0 _), ((x4.drew.alloc _).trans x5).set _ _⟩
theorem Tl.Ok.lok {l : List Ln} (h : Tl.Ok l) : LOk l := fun x hx => by
  have hm := mapOk_of (h.chk x hx)
  have := hm.p0
  have := hm.p1
  have := hm.sp
  exact ⟨by omega, by omega⟩
theorem putT (p : Nat) (l : List Ln) (x : Ln) (R : HProp) (w : World) (hl : Tl.Ok l) (hx : i64 x.m.page) (h : Has w (tlbAt p l * R)) :
    Calls Try.prog 126 #[.pointer (some ⟨p, 0, none⟩), .agg #[(Value.int .i64) x.m.page, (Value.int .i64) x.m.size, (Value.int .i64) x.m.frame, (Value.int .i64) x.m.rights, Value.bool x.dirty]] w (Res (Value.bool (decide (check x.m = 0))) (tlbAt p (Tl.put l x) * R) w) := by
  unfold Tl.put
  by_cases hc : check x.m = 0
  · rw [if_pos hc, decide_eq_true hc]
    exact put_yes p l x R w hl.lok hx (Nat.le_trans hl.len (by omega)) hc h
  · rw [if_neg hc, decide_eq_false hc]
    exact put_no p l x R w hc h
theorem evictT (p : Nat) (l : List Ln) (R : HProp) (w : World) (h : Has w (tlbAt p l * R)) :
    Calls Try.prog 82 #[.pointer (some ⟨p, 0, none⟩)] w (Res (Value.bool (decide (0 < l.length))) (tlbAt p (Tl.evict l) * R) w) := by
  unfold Tl.evict
  cases l with
  | nil => exact evict_no p R w h
  | cons x l => exact evict_yes p (x :: l) R w (by simp) h
end Go.Proofs.Ytndhgomikpokpaa
