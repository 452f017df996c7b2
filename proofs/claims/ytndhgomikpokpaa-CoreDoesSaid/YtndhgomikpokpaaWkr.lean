/- Contracts of package walker: New, On, Access, Begin, Again, end, marked. -/
import Derived.Test.YtndhgomikpokpaaWalkerM
import Derived.Test.YtndhgomikpokpaaPage
import Derived.Test.YtndhgomikpokpaaRet
import Derived.Test.YtndhgomikpokpaaFrm
import Derived.Test.YtndhgomikpokpaaStp
import Derived.Deep.Cut
namespace Go.Proofs.Ytndhgomikpokpaa
open Go.RowKit
set_option maxRecDepth 100000

/-- A walker's state. -/
def stV (c : Ck) : Int := if c.on = true then (if c.mark = true then 2 else 1) else 0
/-- A walker's cells: what it read stands in the last ones. -/
abbrev wkCells (root : Int) (c : Ck) (w : Int) (e : En) : Array Value := #[(Value.int .i64) root, (Value.int .i64) (stV c), (Value.int .i64) c.a.page, (Value.int .i64) c.a.kind, Value.bool c.a.user, (Value.int .i64) c.level, (Value.int .i64) c.t, (Value.int .u64) w, Value.bool e.there, Value.bool e.leaf, (Value.int .i64) e.rights, Value.bool e.used, Value.bool e.dirty, (Value.int .i64) e.frame]
def wkBlk (b : Nat) (root : Int) (c : Ck) (w : Int) (e : En) : HProp := blk b (wkCells root c w e) 168
/-- What it read, where it is to mark it. -/
def Mk (c : Ck) (w : Int) (e : En) : Prop := c.mark = true → w = c.w ∧ e = decE c.w c.level
def walkerAt (b : Nat) (root : Int) (c : Ck) : HProp := ex fun w => ex fun e => lift (Mk c w e) * wkBlk b root c w e
theorem walkerAt_open {b : Nat} {root : Int} {c : Ck} {P : HProp} {W : World} (h : Has W (walkerAt b root c * P)) : ∃ w e, Mk c w e ∧ Has W (wkBlk b root c w e * P) := by
  unfold walkerAt at h
  obtain ⟨w, h⟩ := has_ex_star.1 h
  obtain ⟨e, h⟩ := has_ex_star.1 h
  obtain ⟨h1, h2⟩ := has_lift.1 h.a1
  exact ⟨w, e, h1, h2⟩
theorem walkerAt_shut {b : Nat} {root : Int} {c : Ck} {w : Int} {e : En} {P : HProp} {W : World} (hm : Mk c w e) (h : Has W (wkBlk b root c w e * P)) : Has W (walkerAt b root c * P) := by
  unfold walkerAt
  exact has_ex_star.2 ⟨w, has_ex_star.2 ⟨e, (has_lift.2 ⟨hm, h⟩).a2⟩⟩
/-- The value of a step's result. -/
abbrev RsV (r : Rs) : Value := .agg #[Value.bool r.fin, (Value.int .i64) r.an.fin, (Value.int .i64) r.an.frame, (Value.int .i64) r.an.rights, (Value.int .i64) r.ln.m.page, (Value.int .i64) r.ln.m.size, (Value.int .i64) r.ln.m.frame, (Value.int .i64) r.ln.m.rights, Value.bool r.ln.dirty]
theorem load_result {w : World} {R : HProp} {b : Nat} {v0 v1 v2 v3 v4 v5 v6 v7 v8 : Value} (h : Has w (blk b #[v0, v1, v2, v3, v4, v5, v6, v7, v8] 53 * R)) : (loadVar 53 ⟨b, 0, none⟩).run Try.prog w = .ok (.agg #[v0, v1, v2, v3, v4, v5, v6, v7, v8]) w :=
  run_loadVar_row w b 53 53 _ _ _ h.heap Try.underlying53 rfl (by kernel_rfl)
theorem load_access {w : World} {R : HProp} {b : Nat} {v0 v1 v2 : Value} (h : Has w (blk b #[v0, v1, v2] 29 * R)) : (loadVar 29 ⟨b, 0, none⟩).run Try.prog w = .ok (.agg #[v0, v1, v2]) w :=
  run_loadVar_row w b 29 29 _ _ _ h.heap Try.underlying29 rfl (by kernel_rfl)
theorem Has.cells14 {w : World} {R : HProp} {b : Nat} {v0 v1 v2 v3 v4 v5 v6 v7 v8 v9 v10 v11 v12 v13 : Value} {t : TypeId} (h : Has w (blk b #[v0, v1, v2, v3, v4, v5, v6, v7, v8, v9, v10, v11, v12, v13] t * R)) :
    w.cell? ⟨b, 0, none⟩ = some v0 ∧ w.cell? ⟨b, 1, none⟩ = some v1 ∧ w.cell? ⟨b, 2, none⟩ = some v2 ∧ w.cell? ⟨b, 3, none⟩ = some v3 ∧ w.cell? ⟨b, 4, none⟩ = some v4 ∧ w.cell? ⟨b, 5, none⟩ = some v5 ∧ w.cell? ⟨b, 6, none⟩ = some v6 ∧
      w.cell? ⟨b, 7, none⟩ = some v7 ∧ w.cell? ⟨b, 8, none⟩ = some v8 ∧ w.cell? ⟨b, 9, none⟩ = some v9 ∧ w.cell? ⟨b, 10, none⟩ = some v10 ∧ w.cell? ⟨b, 11, none⟩ = some v11 ∧ w.cell? ⟨b, 12, none⟩ = some v12 ∧ w.cell? ⟨b, 13, none⟩ = some v13 :=
  ⟨h.cell 0, h.cell 1, h.cell 2, h.cell 3, h.cell 4, h.cell 5, h.cell 6, h.cell 7, h.cell 8, h.cell 9, h.cell 10, h.cell 11, h.cell 12, h.cell 13⟩
theorem Has.frees7 {w : World} {R : HProp} {b : Nat} {cs : Array Value} {t : TypeId} (h : Has w (blk b cs t * R)) :
    w.frozen? ⟨b, 1, none⟩ = false ∧ w.frozen? ⟨b, 2, none⟩ = false ∧ w.frozen? ⟨b, 3, none⟩ = false ∧ w.frozen? ⟨b, 4, none⟩ = false ∧ w.frozen? ⟨b, 5, none⟩ = false ∧ w.frozen? ⟨b, 6, none⟩ = false ∧ w.frozen? ⟨b, 7, none⟩ = false :=
  ⟨h.free 1, h.free 2, h.free 3, h.free 4, h.free 5, h.free 6, h.free 7⟩

theorem newW (root : Int) (R : HProp) (w : World) (h : Has w R) : Calls Try.prog 23 #[(Value.int .i64) root] w fun e w' => ∃ p, Res (.pointer (some ⟨p, 0, none⟩)) (walkerAt p root Ck.zero * R) w e w' := by
  have h1 : Has _ (wkBlk w.heap.size root Ck.zero 0 En.zero * R) := h.new (wkCells root Ck.zero 0 En.zero) 168
  go_enter Try.func23, Try.ntmps23
  go_wp2
  go_ret
  exact ⟨_, rfl, walkerAt_shut (fun h => by cases h) h1, (Ext.refl w).alloc _⟩
theorem onW (b : Nat) (root : Int) (c : Ck) (R : HProp) (W : World) (h : Has W (walkerAt b root c * R)) : Calls Try.prog 53 #[.pointer (some ⟨b, 0, none⟩)] W (Same (Value.bool c.on) W) := by
  obtain ⟨w, e, _, h⟩ := walkerAt_open h
  unfold wkBlk at h
  have c1 : W.cell? ⟨b, 1, none⟩ = some ((Value.int .i64) (stV c)) := h.cell 1
  have hl := h.lt
  have hy : Hid ((stV c != 0) = c.on) := Lib.hid (by unfold stV; cases c.on <;> cases c.mark <;> rfl)
  go_enter Try.func53, Try.ntmps53
  go_wp2
  go_ret
  exact ⟨by rw [hy.out]; rfl, rfl⟩
theorem accessW (b : Nat) (root : Int) (c : Ck) (R : HProp) (W : World) (h : Has W (walkerAt b root c * R)) : Calls Try.prog 54 #[.pointer (some ⟨b, 0, none⟩)] W (Pure (.agg #[(Value.int .i64) c.a.page, (Value.int .i64) c.a.kind, Value.bool c.a.user]) W) := by
  obtain ⟨w, e, _, h⟩ := walkerAt_open h
  unfold wkBlk at h
  obtain ⟨c0, c1, c2, c3, c4, _⟩ := h.cells14
  have hl := h.lt
  have H1 := (has_old W).new #[(Value.int .i64) c.a.page, (Value.int .i64) c.a.kind, Value.bool c.a.user] 29
  go_enter Try.func54, Try.ntmps54
  go_wp2
  refine ret_via (fun wz => Has wz (blk W.heap.size #[(Value.int .i64) c.a.page, (Value.int .i64) c.a.kind, Value.bool c.a.user] 29 * (old W W.heap.size)) ∧ Ext W wz) ⟨H1, by (repeat (first | with_reducible assumption | with_reducible exact Ext.refl _ | with_reducible refine Ext.set ?_ _ _ | with_reducible refine Ext.alloc ?_ _ | with_reducible refine Ext.drew ?_ | with_reducible refine Ext.drewN ?_ _ | assumption | exact Ext.refl _ | refine Ext.alloc ?_ _ | refine Ext.set ?_ _ _ | refine Ext.drew ?_ | refine Ext.drewN ?_ _ | refine Ext.below ?_ (by assumption) | refine Ext.trans ?_ (by assumption)))⟩ ?_
  rintro wz ⟨hz, xz⟩
  exact bodyPost_ret (results_c Try.results54 rfl (load_access hz)) rfl ⟨rfl, below_of1 hz.right xz⟩
/-- What a Begin tells, and what it leaves. -/
def begC (c : Ck) (a : Ac) : Int := if checkAccess a ≠ 0 then checkAccess a else if c.on = true then 8 else 0
def begS (c : Ck) (root : Int) (a : Ac) : Ck := if begC c a = 0 then c.begin root a else c
theorem beginW (b : Nat) (root : Int) (c : Ck) (a : Ac) (R : HProp) (W : World) (h : Has W (walkerAt b root c * R)) :
    Calls Try.prog 24 #[.pointer (some ⟨b, 0, none⟩), .agg #[(Value.int .i64) a.page, (Value.int .i64) a.kind, Value.bool a.user]] W (Res ((Value.int .i64) (begC c a)) (walkerAt b root (begS c root a) * R) W) := by
  have h1 := (h.new #[(Value.int .i64) a.page, (Value.int .i64) a.kind, Value.bool a.user] 29).p2
  have x1 := (Ext.refl W).alloc (.cells #[(Value.int .i64) a.page, (Value.int .i64) a.kind, Value.bool a.user] 29)
  obtain ⟨a0, a1, a2⟩ := h1.right.cells3
  have HC := Lib.hid (fun X => checkAccess_any a.page a.kind a.user X)
  by_cases hc : checkAccess a = 0
  · have hc' : checkAccess ⟨a.page, a.kind, a.user⟩ = 0 := hc
    rw [hc'] at HC
    have HO := Lib.hid (fun R X h => onW b root c R X h)
    cases hon : c.on with
    | true =>
      have hy1 : Hid (begC c a = 8 ∧ begS c root a = c) := Lib.hid (by unfold begS begC; rw [if_neg (by omega), if_pos hon]; exact ⟨rfl, if_neg (by omega)⟩)
      rw [hon] at HO
      clear hc hc' h hon
      go_enter Try.func24, Try.ntmps24
      go_wp2_with (first | (go_at_call 100; refine (HC.out _).mono ?_; rintro e w2 ⟨rfl, b2⟩; have h2 := h1.below b2; have x2 := x1.below b2) | (go_at_call 53; refine (HO.out _ _ h2).mono ?_; rintro e w3 ⟨rfl, rfl⟩))
      go_ret
      rw [hy1.out.1, hy1.out.2]
      exact ⟨rfl, h2.p2.right, x2⟩
    | false =>
      have hy1 : Hid (begC c a = 0 ∧ begS c root a = c.begin root a) := Lib.hid (by unfold begS begC; rw [if_neg (by omega), if_neg (by rw [hon]; simp)]; exact ⟨rfl, if_pos rfl⟩)
      rw [hon] at HO
      clear hc hc' h
      go_enter Try.func24, Try.ntmps24
      go_wp2_with (refine (HC.out _).mono ?_; rintro e w2 ⟨rfl, b2⟩)
      have h2 := h1.below b2
      have x2 := x1.below b2
      clear h1 x1 b2 a0 a1 a2
      refine (HO.out _ _ h2).mono ?_; rintro e w3 ⟨rfl, rfl⟩
      obtain ⟨w', e', _, h3⟩ := walkerAt_open h2
      unfold wkBlk at h3
      obtain ⟨a0, a1, a2⟩ := h3.right.cells3
      have al := h3.right.lt
      have hne := h3.ne
      have hne' := hne.symm
      have k0 : w2.cell? ⟨b, 0, none⟩ = some ((Value.int .i64) root) := h3.cell 0
      obtain ⟨f1, f2, f3, f4, f5, f6, _⟩ := h3.frees7
      have kl := h3.lt
      obtain ⟨_, k1, k2, k3, k4, k5, k6, _⟩ := h3.cells14
      have hc1 : stV (c.begin root a) = 1 := rfl
      go_wp2_with fail
      go_ret
      rw [hy1.out.1, hy1.out.2]
      refine ⟨rfl, walkerAt_shut (w := w') (e := e') (fun h => by cases h) ?_, ((((((x2.set _ _).set _ _).set _ _).set _ _).set _ _).set _ _)⟩
      have h9 : Has ((((((w2.setCell ⟨b, 2, none⟩ ((Value.int .i64) a.page)).setCell ⟨b, 3, none⟩ ((Value.int .i64) a.kind)).setCell ⟨b, 4, none⟩ (Value.bool a.user)).setCell ⟨b, 1, none⟩ ((Value.int .i64) 1)).setCell ⟨b, 5, none⟩ ((Value.int .i64) 3)).setCell ⟨b, 6, none⟩ ((Value.int .i64) root)) (wkBlk b root (c.begin root a) w' e' * (blk W.heap.size #[(Value.int .i64) a.page, (Value.int .i64) a.kind, Value.bool a.user] 29 * R)) := (((((h3.set 2 _).set 3 _).set 4 _).set 1 _).set 5 _).set 6 _
      exact h9.p2.right
  · have hc' : checkAccess ⟨a.page, a.kind, a.user⟩ ≠ 0 := hc
    have hn : (checkAccess ⟨a.page, a.kind, a.user⟩ != 0) = true := by simpa using hc'
    have hy1 : Hid (begC c a = checkAccess ⟨a.page, a.kind, a.user⟩ ∧ begS c root a = c) := Lib.hid (by unfold begS begC; rw [if_pos hc]; exact ⟨rfl, if_neg hc⟩)
    clear hc hc' h
    generalize checkAccess ⟨a.page, a.kind, a.user⟩ = cc at *
    go_enter Try.func24, Try.ntmps24
    go_wp2_with (refine (HC.out _).mono ?_; rintro e w2 ⟨rfl, b2⟩)
    go_ret
    rw [hy1.out.1, hy1.out.2]
    exact ⟨rfl, (h1.below b2).p2.right, x1.below b2⟩
theorem againW (b : Nat) (root : Int) (c : Ck) (R : HProp) (W : World) (h : Has W (walkerAt b root c * R)) : Calls Try.prog 48 #[.pointer (some ⟨b, 0, none⟩)] W (Res (.tuple #[]) (walkerAt b root (c.again root) * R) W) := by
  have HO := Lib.hid (fun R X h => onW b root c R X h)
  cases hon : c.on with
  | true =>
    rw [hon] at HO
    obtain ⟨w', e', _, h3⟩ := walkerAt_open h
    unfold wkBlk at h3
    have k0 : W.cell? ⟨b, 0, none⟩ = some ((Value.int .i64) root) := h3.cell 0
    obtain ⟨f1, f2, f3, f4, f5, f6, _⟩ := h3.frees7
    have kl := h3.lt
    obtain ⟨_, k1, k2, k3, k4, k5, k6, _⟩ := h3.cells14
    have hs : c.again root = { c with t := root, level := 3, mark := false } := by unfold Ck.again; rw [if_pos hon]
    have hst : stV { c with t := root, level := 3, mark := false } = 1 := by unfold stV; simp [hon]
    have h9 : Has (((W.setCell ⟨b, 1, none⟩ ((Value.int .i64) 1)).setCell ⟨b, 5, none⟩ ((Value.int .i64) 3)).setCell ⟨b, 6, none⟩ ((Value.int .i64) root)) (wkBlk b root { c with t := root, level := 3, mark := false } w' e' * R) := by
      unfold wkBlk wkCells
      rw [hst]
      exact ((h3.set 1 _).set 5 _).set 6 _
    have HS := Lib.hid hs
    clear hs hst h3 hon
    go_enter Try.func48, Try.ntmps48
    go_wp2_with (refine (HO.out _ _ h).mono ?_; rintro e w3 ⟨rfl, rfl⟩)
    refine bodyPost_ret (v := .tuple #[]) (by simp [results, Try.results48]) rfl ?_
    rw [HS.out]
    exact ⟨rfl, walkerAt_shut (w := w') (e := e') (fun h => by cases h) h9, (((Ext.refl W).set _ _).set _ _).set _ _⟩
  | false =>
    rw [hon] at HO
    have hs : c.again root = c := by unfold Ck.again; rw [if_neg (by rw [hon]; simp)]
    have HS := Lib.hid hs
    clear hs hon
    go_enter Try.func48, Try.ntmps48
    go_wp2_with (refine (HO.out _ _ h).mono ?_; rintro e w3 ⟨rfl, rfl⟩)
    refine bodyPost_ret (v := .tuple #[]) (by simp [results, Try.results48]) rfl ?_
    rw [HS.out]
    exact ⟨rfl, h, Ext.refl _⟩
set_option maxHeartbeats 1000000 in
theorem endW (b : Nat) (root : Int) (c : Ck) (w : Int) (e : En) (an : An) (ln : Ln) (R : HProp) (W : World) (h : Has W (wkBlk b root c w e * R)) :
    Calls Try.prog 139 #[.pointer (some ⟨b, 0, none⟩), .agg #[(Value.int .i64) an.fin, (Value.int .i64) an.frame, (Value.int .i64) an.rights], .agg #[(Value.int .i64) ln.m.page, (Value.int .i64) ln.m.size, (Value.int .i64) ln.m.frame, (Value.int .i64) ln.m.rights, Value.bool ln.dirty]] W (Res (RsV ⟨true, an, ln⟩) (wkBlk b root c.idle w e * R) W) := by
  unfold wkBlk at h
  have h1 := ((h.new #[(Value.int .i64) an.fin, (Value.int .i64) an.frame, (Value.int .i64) an.rights] 49).new #[(Value.int .i64) ln.m.page, (Value.int .i64) ln.m.size, (Value.int .i64) ln.m.frame, (Value.int .i64) ln.m.rights, Value.bool ln.dirty] 51).new #[Value.bool false, (Value.int .i64) 0, (Value.int .i64) 0, (Value.int .i64) 0, (Value.int .i64) 0, (Value.int .i64) 0, (Value.int .i64) 0, (Value.int .i64) 0, Value.bool false] 53
  have x1 := (((Ext.refl W).alloc (.cells #[(Value.int .i64) an.fin, (Value.int .i64) an.frame, (Value.int .i64) an.rights] 49)).alloc (.cells #[(Value.int .i64) ln.m.page, (Value.int .i64) ln.m.size, (Value.int .i64) ln.m.frame, (Value.int .i64) ln.m.rights, Value.bool ln.dirty] 51)).alloc (.cells #[Value.bool false, (Value.int .i64) 0, (Value.int .i64) 0, (Value.int .i64) 0, (Value.int .i64) 0, (Value.int .i64) 0, (Value.int .i64) 0, (Value.int .i64) 0, Value.bool false] 53)
  simp only [World.size_alloc] at h1
  clear h
  go_enter Try.func139, Try.ntmps139
  go_upto_region 1 with fail
  generalize (((W.alloc (.cells #[(Value.int .i64) an.fin, (Value.int .i64) an.frame, (Value.int .i64) an.rights] 49)).alloc (.cells #[(Value.int .i64) ln.m.page, (Value.int .i64) ln.m.size, (Value.int .i64) ln.m.frame, (Value.int .i64) ln.m.rights, Value.bool ln.dirty] 51)).alloc (.cells #[Value.bool false, (Value.int .i64) 0, (Value.int .i64) 0, (Value.int .i64) 0, (Value.int .i64) 0, (Value.int .i64) 0, (Value.int .i64) 0, (Value.int .i64) 0, Value.bool false] 53)) = W3 at *
  generalize W.heap.size + 1 + 1 = X3 at *
  generalize W.heap.size + 1 = X2 at *
  generalize W.heap.size = X1 at *
  have h2 : Has W3 (blk b (wkCells root c w e) 168 * (blk X1 #[(Value.int .i64) an.fin, (Value.int .i64) an.frame, (Value.int .i64) an.rights] 49 * (blk X2 #[(Value.int .i64) ln.m.page, (Value.int .i64) ln.m.size, (Value.int .i64) ln.m.frame, (Value.int .i64) ln.m.rights, Value.bool ln.dirty] 51 * (blk X3 #[Value.bool false, (Value.int .i64) 0, (Value.int .i64) 0, (Value.int .i64) 0, (Value.int .i64) 0, (Value.int .i64) 0, (Value.int .i64) 0, (Value.int .i64) 0, Value.bool false] 53 * R)))) := h1.eq (by ac_rfl)
  have h2' : Has W3 (blk b (wkCells root c w e) 168 * (blk X2 #[(Value.int .i64) ln.m.page, (Value.int .i64) ln.m.size, (Value.int .i64) ln.m.frame, (Value.int .i64) ln.m.rights, Value.bool ln.dirty] 51 * (blk X1 #[(Value.int .i64) an.fin, (Value.int .i64) an.frame, (Value.int .i64) an.rights] 49 * (blk X3 #[Value.bool false, (Value.int .i64) 0, (Value.int .i64) 0, (Value.int .i64) 0, (Value.int .i64) 0, (Value.int .i64) 0, (Value.int .i64) 0, (Value.int .i64) 0, Value.bool false] 53 * R)))) := h1.eq (by ac_rfl)
  have n1 := h2.ne
  have n2 := h2'.ne
  have m1 := n1.symm
  have m2 := n2.symm
  obtain ⟨f1, f2, f3, f4, f5, f6, _⟩ := h2.frees7
  have kl := h2.lt
  obtain ⟨_, k1, k2, k3, k4, k5, k6, _⟩ := h2.cells14
  obtain ⟨a0, a1, a2⟩ := h2.right.cells3
  have al := h2.right.lt
  obtain ⟨l0, l1, l2, l3, l4⟩ := h2.right.right.cells5
  have ll := h2.right.right.lt
  have h3 := h2.right.right.right
  have r0 := h3.free 0
  have r1 := h3.free 1
  have r2 := h3.free 2
  have r3 := h3.free 3
  have r4 := h3.free 4
  have r5 := h3.free 5
  have r6 := h3.free 6
  have r7 := h3.free 7
  have r8 := h3.free 8
  have rl := h3.lt
  obtain ⟨s0, s1, s2, s3, s4, s5, s6, s7, s8⟩ := h3.cells9
  have h3' : Has W3 (blk b (wkCells root c w e) 168 * (blk X3 #[Value.bool false, (Value.int .i64) 0, (Value.int .i64) 0, (Value.int .i64) 0, (Value.int .i64) 0, (Value.int .i64) 0, (Value.int .i64) 0, (Value.int .i64) 0, Value.bool false] 53 * (R * (blk X1 #[(Value.int .i64) an.fin, (Value.int .i64) an.frame, (Value.int .i64) an.rights] 49 * blk X2 #[(Value.int .i64) ln.m.page, (Value.int .i64) ln.m.size, (Value.int .i64) ln.m.frame, (Value.int .i64) ln.m.rights, Value.bool ln.dirty] 51)))) := h1.eq (by ac_rfl)
  have n3 := h3'.ne
  have m3 := n3.symm
  have h4 : Has ((((W3.setCell ⟨b, 1, none⟩ ((Value.int .i64) 0)).setCell ⟨b, 2, none⟩ ((Value.int .i64) 0)).setCell ⟨b, 3, none⟩ ((Value.int .i64) 0)).setCell ⟨b, 4, none⟩ (Value.bool false)) (wkBlk b root c.idle w e * (blk X3 #[Value.bool false, (Value.int .i64) 0, (Value.int .i64) 0, (Value.int .i64) 0, (Value.int .i64) 0, (Value.int .i64) 0, (Value.int .i64) 0, (Value.int .i64) 0, Value.bool false] 53 * (R * (blk X1 #[(Value.int .i64) an.fin, (Value.int .i64) an.frame, (Value.int .i64) an.rights] 49 * blk X2 #[(Value.int .i64) ln.m.page, (Value.int .i64) ln.m.size, (Value.int .i64) ln.m.frame, (Value.int .i64) ln.m.rights, Value.bool ln.dirty] 51)))) := (((h3'.set 1 _).set 2 _).set 3 _).set 4 _
  clear h1 h2 h2' h3 h3'
  go_wp2_with fail
  refine ret_via (fun wz => Has wz (blk X3 #[Value.bool true, (Value.int .i64) an.fin, (Value.int .i64) an.frame, (Value.int .i64) an.rights, (Value.int .i64) ln.m.page, (Value.int .i64) ln.m.size, (Value.int .i64) ln.m.frame, (Value.int .i64) ln.m.rights, Value.bool ln.dirty] 53 * (wkBlk b root c.idle w e * (R * (blk X1 #[(Value.int .i64) an.fin, (Value.int .i64) an.frame, (Value.int .i64) an.rights] 49 * blk X2 #[(Value.int .i64) ln.m.page, (Value.int .i64) ln.m.size, (Value.int .i64) ln.m.frame, (Value.int .i64) ln.m.rights, Value.bool ln.dirty] 51)))) ∧ Ext W wz) ⟨((((((((h4.p2.set 0 _).set 1 _).set 2 _).set 3 _).set 4 _).set 5 _).set 6 _).set 7 _).set 8 _, by (repeat (first | with_reducible assumption | with_reducible exact Ext.refl _ | with_reducible refine Ext.set ?_ _ _ | with_reducible refine Ext.alloc ?_ _ | with_reducible refine Ext.drew ?_ | with_reducible refine Ext.drewN ?_ _ | assumption | exact Ext.refl _ | refine Ext.alloc ?_ _ | refine Ext.set ?_ _ _ | refine Ext.drew ?_ | refine Ext.drewN ?_ _ | refine Ext.below ?_ (by assumption) | refine Ext.trans ?_ (by assumption)))⟩ ?_
  rintro wz ⟨hz, xz⟩
  exact bodyPost_ret (results_c Try.results139 rfl (load_result hz)) rfl ⟨rfl, hz.right.a2.left, xz⟩
end Go.Proofs.Ytndhgomikpokpaa
