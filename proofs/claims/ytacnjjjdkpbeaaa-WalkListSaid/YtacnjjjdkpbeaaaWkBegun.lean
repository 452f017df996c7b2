/- That the first look at walks is true. -/
import Derived.Test.YtacnjjjdkpbeaaaBelow
namespace Go.Proofs.Ytacnjjjdkpbeaaa
open Go.RowKit
set_option maxRecDepth 100000

theorem spot_cells {y : Wy} {A B : Option Addr} {n c d : Nat} : spotV y A B n c d = .tuple #[.agg #[(Value.int .i64) y.lev, Value.bool y.e.there, Value.bool y.e.leaf, (Value.int .i64) y.e.rights, Value.bool y.e.used, Value.bool y.e.dirty, (Value.int .i64) y.e.frame, .slice A n c, .slice B n d], (Value.int .i64) y.code] := rfl
theorem begun_way0 : way (memS 2 1 [1]) 0 0 = .err 7 := by rfl
theorem begun_way1 : way (memS 2 1 [1]) 0 512 = ⟨0, [0], 3, En.zero⟩ := by rfl
theorem begun_place : placesOf 512 1 = [1] := by rfl
set_option maxHeartbeats 1000000 in
theorem walkBegun_any (w : World) : Calls Try.prog 28 #[] w (Pure (Value.bool true) w) := by
  have h0 := (has_old w).new #[(Value.int .u64) 1] 30
  have x0 := (Ext.refl w).alloc (.cells #[(Value.int .u64) 1] 30)
  have hA : Arr (w.alloc (.cells #[(Value.int .u64) 1] 30)) (some ⟨w.heap.size, 0, none⟩) 1 1 ([(1 : Int)].map cellsU) := by
    refine ⟨rfl, by omega, fun i xs hi => ⟨w.heap.size, 0, rfl, h0.lt, fun j u hu => ?_⟩⟩
    match i, hi with
    | 0, hi =>
      simp [cellsU] at hi
      subst hi
      match j, hu with
      | 0, hu => simp at hu; subst hu; exact h0.cell 0
  have hok := memS_ok (n := 2) (taken := 1) (ws := [1]) (by omega) (by omega) (fun x hx => by simp at hx; subst hx; exact ⟨by decide, by decide⟩)
  go_enter Try.func28, Try.ntmps28
  go_wp2_with fail
  refine (memory_any 2 1 _ 1 1 [1] _ (by omega) (by omega) hA (fun x hx => by simp at hx; subst hx; exact ⟨by decide, by decide⟩)).mono ?_; rintro e w1 ⟨f, m, rfl, h1, x1⟩
  have h1 := (h0.onto' h1.a2).a1
  have x1 := x0.trans x1
  clear h0 x0 hA
  have F1 := Lib.hid (fun R w h => find_way f _ 0 0 R w hok h)
  have F2 := Lib.hid (fun R w h => find_way f _ 0 512 R w hok h)
  rw [begun_way0] at F1
  rw [begun_way1] at F2
  go_wp2_with fail
  refine (F1.out _ _ h1).mono ?_; rintro e w2 hF
  obtain ⟨A, B, c, d, rfl, h2, x2⟩ : ∃ (A B : Option Addr) (c d : Nat), e = .returned (.tuple #[.agg #[(Value.int .i64) 0, Value.bool false, Value.bool false, (Value.int .i64) 0, Value.bool false, Value.bool false, (Value.int .i64) 0, .slice A 0 c, .slice B 0 d], (Value.int .i64) 7]) ∧ Has w2 (irow (.slice A 0 c) [] * (irow (.slice B 0 d) [] * old w1 w1.heap.size)) ∧ Ext w1 w2 := hF
  have h3 := (h1.onto' h2.a2).right.alloc (.cells #[(Value.int .i64) 0, Value.bool false, Value.bool false, (Value.int .i64) 0, Value.bool false, Value.bool false, (Value.int .i64) 0, .slice A 0 c, .slice B 0 d] 62)
  have x3 := (x1.trans x2).alloc (.cells #[(Value.int .i64) 0, Value.bool false, Value.bool false, (Value.int .i64) 0, Value.bool false, Value.bool false, (Value.int .i64) 0, .slice A 0 c, .slice B 0 d] 62)
  clear h2 x2
  go_wp2_with fail
  refine (F2.out _ _ h3).mono ?_; rintro e w4 hF
  obtain ⟨A2, B2, c2, d2, rfl, h4, x4⟩ : ∃ (A B : Option Addr) (c d : Nat), e = .returned (.tuple #[.agg #[(Value.int .i64) 3, Value.bool false, Value.bool false, (Value.int .i64) 0, Value.bool false, Value.bool false, (Value.int .i64) 0, .slice A 1 c, .slice B 1 d], (Value.int .i64) 0]) ∧ Has w4 (irow (.slice A 1 c) [0] * (irow (.slice B 1 d) [1] * old _ (World.heap _).size)) ∧ Ext _ w4 := hF
  have h5 := (h3.onto' h4.a2).a1
  have x5 := x3.trans x4
  obtain ⟨b, rfl, hb, c0⟩ := irow_at h5.right (k := 0) (by simp)
  have c0 : w4.cell? ⟨b, 0, none⟩ = some ((Value.int .i64) 1) := c0
  clear h4 x4
  go_wp2_with fail
  go_ret
  exact ⟨rfl, below_of1 (h5.right.right.right.right.right.alloc _) (x5.alloc _)⟩
end Go.Proofs.Ytacnjjjdkpbeaaa
