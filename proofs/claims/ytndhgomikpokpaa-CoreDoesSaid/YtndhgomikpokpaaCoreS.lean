/- Contracts of the document's core: Again, end. -/
import Derived.Test.YtndhgomikpokpaaCoreR
import Derived.Test.YtndhgomikpokpaaStp
import Derived.Test.YtndhgomikpokpaaRet
import Derived.Test.YtndhgomikpokpaaFrm
import Derived.Deep.DeepCutAuto
namespace Go.Proofs.Ytndhgomikpokpaa
open Go.RowKit
set_option maxRecDepth 100000

theorem againR (q : Nat) (root : Int) (l : List Ln) (k : Ck) (R : HProp) (W : World) (h : Has W (coreAt q l k * R)) : Calls Try.prog 49 #[.pointer (some ⟨q, 0, none⟩), (Value.int .i64) root] W (Res (.tuple #[]) (coreAt q l (k.again root) * R) W) := by
  obtain ⟨A, c, h⟩ := coreAt_open h
  have h' := h
  unfold coreIn coreBlk at h'
  obtain ⟨c0, c1, c2, c3, c4, c5, c6, c7, c8⟩ := h'.cells9
  have hl := h'.lt
  have f5 := h'.free 5
  have f6 := h'.free 6
  have f7 := h'.free 7
  cases hon : k.on with
  | true =>
    have hs : k.again root = { k with t := root, level := 3, mark := false } := by unfold Ck.again; rw [if_pos hon]
    have h9 : Has (((W.setCell ⟨q, 5, none⟩ ((Value.int .i64) root)).setCell ⟨q, 6, none⟩ ((Value.int .i64) 3)).setCell ⟨q, 7, none⟩ (Value.bool false)) (coreIn q A c l { k with t := root, level := 3, mark := false } R) := ((h'.set 5 _).set 6 _).set 7 _
    have HS := Lib.hid hs
    rw [hon] at c1
    clear hs h h' hon
    go_enter Try.func49, Try.ntmps49
    go_wp2
    refine bodyPost_ret (v := .tuple #[]) (by simp [results, Try.results49]) rfl ?_
    rw [HS.out]
    exact ⟨rfl, coreAt_shut h9, (((Ext.refl W).set _ _).set _ _).set _ _⟩
  | false =>
    have hs : k.again root = k := by unfold Ck.again; rw [if_neg (by rw [hon]; simp)]
    have HS := Lib.hid hs
    rw [hon] at c1
    clear hs h' hon
    go_enter Try.func49, Try.ntmps49
    go_wp2
    refine bodyPost_ret (v := .tuple #[]) (by simp [results, Try.results49]) rfl ?_
    rw [HS.out]
    exact ⟨rfl, coreAt_shut h, Ext.refl _⟩
theorem endCR (q : Nat) (l : List Ln) (k : Ck) (an : An) (R : HProp) (W : World) (h : Has W (coreAt q l k * R)) :
    Calls Try.prog 113 #[.pointer (some ⟨q, 0, none⟩), .agg #[(Value.int .i64) an.fin, (Value.int .i64) an.frame, (Value.int .i64) an.rights]] W (Res (.tuple #[.agg #[(Value.int .i64) an.fin, (Value.int .i64) an.frame, (Value.int .i64) an.rights], Value.bool true, (Value.int .i64) 0]) (coreAt q l k.idle * R) W) := by
  obtain ⟨A, c, h⟩ := coreAt_open h
  have h1 := (h.new #[(Value.int .i64) an.fin, (Value.int .i64) an.frame, (Value.int .i64) an.rights] 49).new #[(Value.int .i64) 0, (Value.int .i64) 0, (Value.int .i64) 0] 49
  have x1 := ((Ext.refl W).alloc (.cells #[(Value.int .i64) an.fin, (Value.int .i64) an.frame, (Value.int .i64) an.rights] 49)).alloc (.cells #[(Value.int .i64) 0, (Value.int .i64) 0, (Value.int .i64) 0] 49)
  simp only [World.size_alloc] at h1
  clear h
  go_enter Try.func113, Try.ntmps113
  go_upto_region 1 with fail
  generalize ((W.alloc (.cells #[(Value.int .i64) an.fin, (Value.int .i64) an.frame, (Value.int .i64) an.rights] 49)).alloc (.cells #[(Value.int .i64) 0, (Value.int .i64) 0, (Value.int .i64) 0] 49)) = W3 at *
  generalize W.heap.size + 1 = X2 at *
  generalize W.heap.size = X1 at *
  unfold coreIn coreBlk at h1
  have h2 : Has W3 (blk q #[.slice A l.length c, Value.bool k.on, (Value.int .i64) k.a.page, (Value.int .i64) k.a.kind, Value.bool k.a.user, (Value.int .i64) k.t, (Value.int .i64) k.level, Value.bool k.mark, (Value.int .u64) k.w] 94 * (blk X1 #[(Value.int .i64) an.fin, (Value.int .i64) an.frame, (Value.int .i64) an.rights] 49 * (blk X2 #[(Value.int .i64) 0, (Value.int .i64) 0, (Value.int .i64) 0] 49 * (rrow (.slice A l.length c) l * R)))) := h1.eq (by ac_rfl)
  have h3 : Has W3 (blk q #[.slice A l.length c, Value.bool k.on, (Value.int .i64) k.a.page, (Value.int .i64) k.a.kind, Value.bool k.a.user, (Value.int .i64) k.t, (Value.int .i64) k.level, Value.bool k.mark, (Value.int .u64) k.w] 94 * (blk X2 #[(Value.int .i64) 0, (Value.int .i64) 0, (Value.int .i64) 0] 49 * (rrow (.slice A l.length c) l * (R * blk X1 #[(Value.int .i64) an.fin, (Value.int .i64) an.frame, (Value.int .i64) an.rights] 49)))) := h1.eq (by ac_rfl)
  have n1 := h2.ne
  have m1 := n1.symm
  have n2 := h3.ne
  have m2 := n2.symm
  obtain ⟨c0, c1, c2, c3, c4, c5, c6, c7, c8⟩ := h2.cells9
  have f1 := h2.free 1
  have f2 := h2.free 2
  have f3 := h2.free 3
  have f4 := h2.free 4
  have f7 := h2.free 7
  have hl := h2.lt
  obtain ⟨a0, a1, a2⟩ := h2.right.cells3
  have al := h2.right.lt
  obtain ⟨r0, r1, r2⟩ := h3.right.cells3
  obtain ⟨g0, g1, g2⟩ := h3.right.frees3
  have rl := h3.right.lt
  have h4 : Has (((((W3.setCell ⟨q, 1, none⟩ (Value.bool false)).setCell ⟨q, 2, none⟩ ((Value.int .i64) 0)).setCell ⟨q, 3, none⟩ ((Value.int .i64) 0)).setCell ⟨q, 4, none⟩ (Value.bool false)).setCell ⟨q, 7, none⟩ (Value.bool false)) (coreBlk q (.slice A l.length c) k.idle * (blk X2 #[(Value.int .i64) 0, (Value.int .i64) 0, (Value.int .i64) 0] 49 * (rrow (.slice A l.length c) l * (R * blk X1 #[(Value.int .i64) an.fin, (Value.int .i64) an.frame, (Value.int .i64) an.rights] 49)))) := ((((h3.set 1 _).set 2 _).set 3 _).set 4 _).set 7 _
  clear h1 h2 h3
  go_wp2_with fail
  refine ret_via (fun wz => Has wz (blk X2 #[(Value.int .i64) an.fin, (Value.int .i64) an.frame, (Value.int .i64) an.rights] 49 * (coreBlk q (.slice A l.length c) k.idle * (rrow (.slice A l.length c) l * (R * blk X1 #[(Value.int .i64) an.fin, (Value.int .i64) an.frame, (Value.int .i64) an.rights] 49)))) ∧ Ext W wz) ⟨((h4.p2.set 0 ((Value.int .i64) an.fin)).set 1 ((Value.int .i64) an.frame)).set 2 ((Value.int .i64) an.rights), by (repeat (first | with_reducible assumption | with_reducible exact Ext.refl _ | with_reducible refine Ext.set ?_ _ _ | with_reducible refine Ext.alloc ?_ _ | with_reducible refine Ext.drew ?_ | with_reducible refine Ext.drewN ?_ _ | assumption | exact Ext.refl _ | refine Ext.alloc ?_ _ | refine Ext.set ?_ _ _ | refine Ext.drew ?_ | refine Ext.drewN ?_ _ | refine Ext.below ?_ (by assumption) | refine Ext.trans ?_ (by assumption)))⟩ ?_
  rintro wz ⟨hz, xz⟩
  exact bodyPost_ret (results_ctt Try.results113 rfl rfl rfl (load_answer hz)) rfl ⟨rfl, (coreAt_shut (A := A) (c := c) (by unfold coreIn; exact hz.right)).a2.left, xz⟩
end Go.Proofs.Ytndhgomikpokpaa
