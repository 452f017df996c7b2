/- The contract of entry.Check: the look's panic is caught, and its code is the answer. -/
import Derived.Test.YtacnjjjdkpbeaaaEntry2
namespace Go.Proofs.Ytacnjjjdkpbeaaa
open Go.RowKit
set_option maxRecDepth 100000

theorem look_any (b q : Nat) (th leaf u d : Bool) (r f l : Int) (w : World) (c0 : w.cell? ⟨b, 0, none⟩ = some (Value.bool th)) (c1 : w.cell? ⟨b, 1, none⟩ = some (Value.bool leaf)) (c2 : w.cell? ⟨b, 2, none⟩ = some ((Value.int .i64) r)) (c3 : w.cell? ⟨b, 3, none⟩ = some (Value.bool u)) (c4 : w.cell? ⟨b, 4, none⟩ = some (Value.bool d)) (c5 : w.cell? ⟨b, 5, none⟩ = some ((Value.int .i64) f)) (c6 : w.cell? ⟨q, 0, none⟩ = some ((Value.int .i64) l)) :
    Calls Try.prog 127 #[.pointer (some ⟨b, 0, none⟩), .pointer (some ⟨q, 0, none⟩)] w (EndC (entFault ⟨th, leaf, r, u, d, f⟩ l) w) := by
  by_cases hc : entFault ⟨th, leaf, r, u, d, f⟩ l = 0
  · have hy := Lib.hid (show chkEnd (entFault ⟨th, leaf, r, u, d, f⟩ l) = .returned (.tuple #[]) by unfold chkEnd; rw [if_pos hc])
    have HC := Lib.hid (fun W => check_look th leaf u d r f l W)
    clear hc
    go_enter Try.func127, Try.ntmps127
    go_wp2_with fail
    refine (HC.out _).mono ?_; rintro e w' ⟨he, bl⟩
    rw [hy.out] at he
    subst he
    go_wp2
    go_end0
    exact ⟨hy.out.symm, bl⟩
  · have hy := Lib.hid (show chkEnd (entFault ⟨th, leaf, r, u, d, f⟩ l) = .panicked [{ v := .iface 189 ((Value.int .i64) (entFault ⟨th, leaf, r, u, d, f⟩ l)), recovered := false }] by unfold chkEnd; rw [if_neg hc])
    have HC := Lib.hid (fun W => check_look th leaf u d r f l W)
    clear hc
    go_enter Try.func127, Try.ntmps127
    go_wp2_with fail
    refine (HC.out _).mono ?_; rintro e w' ⟨he, bl⟩
    rw [hy.out] at he
    subst he
    go_wp2
    exact ⟨rfl, hy.out.symm, bl⟩

theorem caught_any (b q : Nat) (th leaf u d : Bool) (r f l : Int) (w : World) (c0 : w.cell? ⟨b, 0, none⟩ = some (Value.bool th)) (c1 : w.cell? ⟨b, 1, none⟩ = some (Value.bool leaf)) (c2 : w.cell? ⟨b, 2, none⟩ = some ((Value.int .i64) r)) (c3 : w.cell? ⟨b, 3, none⟩ = some (Value.bool u)) (c4 : w.cell? ⟨b, 4, none⟩ = some (Value.bool d)) (c5 : w.cell? ⟨b, 5, none⟩ = some ((Value.int .i64) f)) (c6 : w.cell? ⟨q, 0, none⟩ = some ((Value.int .i64) l))
    (hb : b < w.heap.size) (hq : q < w.heap.size) :
    Calls Try.prog 126 #[.func (.func 127) #[] #[.pointer (some ⟨b, 0, none⟩), .pointer (some ⟨q, 0, none⟩)]] w (Pure ((Value.int .i64) (entFault ⟨th, leaf, r, u, d, f⟩ l)) w) := by
  have hmf : ∀ (fn : Fn) (first cap : Array Value) (w : World), (Instr.makeFunc fn first cap).run Try.prog w = .ok (.func fn first cap) w := fun _ _ _ _ => rfl
  have b1 := Below.alloc (Below.refl w.heap.size w) (Nat.le_refl _) (.cells #[(Value.int .i64) 0] 3)
  have k0 := (b1.cell (p := ⟨b, 0, none⟩) hb).trans c0
  have k1 := (b1.cell (p := ⟨b, 1, none⟩) hb).trans c1
  have k2 := (b1.cell (p := ⟨b, 2, none⟩) hb).trans c2
  have k3 := (b1.cell (p := ⟨b, 3, none⟩) hb).trans c3
  have k4 := (b1.cell (p := ⟨b, 4, none⟩) hb).trans c4
  have k5 := (b1.cell (p := ⟨b, 5, none⟩) hb).trans c5
  have k6 := (b1.cell (p := ⟨q, 0, none⟩) hq).trans c6
  clear c0 c1 c2 c3 c4 c5 c6
  have h1 := Has.new (has_old w) #[(Value.int .i64) 0] 3
  by_cases hc : entFault ⟨th, leaf, r, u, d, f⟩ l = 0
  · have hy := Lib.hid (show chkEnd (entFault ⟨th, leaf, r, u, d, f⟩ l) = .returned (.tuple #[]) by unfold chkEnd; rw [if_pos hc])
    rw [hc]
    have HC := Lib.hid (look_any b q th leaf u d r f l _ k0 k1 k2 k3 k4 k5 k6)
    clear hc k0 k1 k2 k3 k4 k5 k6
    go_enter_defers Try.func126, Try.ntmps126
    go_wp2_with fail
    refine (HC.out).mono ?_; rintro e w2 ⟨he, bl⟩
    rw [hy.out] at he
    subst he
    have h2 := h1.below bl
    have x2 := ((Ext.refl w).alloc (.cells #[(Value.int .i64) 0] 3)).below bl
    have z0 : w2.cell? ⟨w.heap.size, 0, none⟩ = some ((Value.int .i64) 0) := h2.cell 0
    have zf := h2.free 0
    have zl := h2.lt
    clear h1 bl hy HC
    go_wp2_with fail
    refine leaves_cons (f := 130) (args := #[.pointer (some ⟨w.heap.size, 0, none⟩)]) (by simp) (by simp [go_sem]) ?_
    refine (caught1_idle ⟨w.heap.size, 0, none⟩ _).mono ?_
    rintro e u' w'' ⟨rfl, rfl, rfl⟩
    have zz : (w2.setCell ⟨w.heap.size, 0, none⟩ ((Value.int .i64) 0)).cell? ⟨w.heap.size, 0, none⟩ = some ((Value.int .i64) 0) := (h2.set 0 ((Value.int .i64) 0)).cell 0
    simp [Leaves, settle, results, Try.results126, go_sem, zz]
    exact ⟨rfl, below_of1 (h2.set 0 _).right (x2.set _ _)⟩
  · have hy := Lib.hid (show chkEnd (entFault ⟨th, leaf, r, u, d, f⟩ l) = .panicked [{ v := .iface 189 ((Value.int .i64) (entFault ⟨th, leaf, r, u, d, f⟩ l)), recovered := false }] by unfold chkEnd; rw [if_neg hc])
    have HC := Lib.hid (look_any b q th leaf u d r f l _ k0 k1 k2 k3 k4 k5 k6)
    clear hc k0 k1 k2 k3 k4 k5 k6
    generalize entFault ⟨th, leaf, r, u, d, f⟩ l = c at *
    go_enter_defers Try.func126, Try.ntmps126
    go_wp2_with fail
    refine (HC.out).mono ?_; rintro e w2 ⟨he, bl⟩
    rw [hy.out] at he
    subst he
    have h2 := h1.below bl
    have x2 := ((Ext.refl w).alloc (.cells #[(Value.int .i64) 0] 3)).below bl
    have z0 : w2.cell? ⟨w.heap.size, 0, none⟩ = some ((Value.int .i64) 0) := h2.cell 0
    have zf := h2.free 0
    have zl := h2.lt
    clear h1 bl hy HC
    go_wp2_with fail
    refine leaves_cons (f := 130) (args := #[.pointer (some ⟨w.heap.size, 0, none⟩)]) (by simp) (by simp [go_sem]) ?_
    refine (caught1_panic ⟨w.heap.size, 0, none⟩ 0 c [] _ z0 zf).mono ?_
    rintro e u' w'' ⟨rfl, rfl, rfl⟩
    have zz : (w2.setCell ⟨w.heap.size, 0, none⟩ ((Value.int .i64) c)).cell? ⟨w.heap.size, 0, none⟩ = some ((Value.int .i64) c) := (h2.set 0 ((Value.int .i64) c)).cell 0
    simp [Leaves, settle, results, Try.results126, go_sem, zz]
    exact ⟨rfl, below_of1 (h2.set 0 _).right (x2.set _ _)⟩

/-- entry.Check. -/
theorem entCheck_any (e : En) (l : Int) (w : World) : Calls Try.prog 116 #[.agg #[Value.bool e.there, Value.bool e.leaf, (Value.int .i64) e.rights, Value.bool e.used, Value.bool e.dirty, (Value.int .i64) e.frame], .int .i64 l] w (Pure ((Value.int .i64) (entFault e l)) w) := by
  obtain ⟨th, leaf, r, u, d, f⟩ := e
  have hmf : ∀ (fn : Fn) (first cap : Array Value) (w : World), (Instr.makeFunc fn first cap).run Try.prog w = .ok (.func fn first cap) w := fun _ _ _ _ => rfl
  have h1 := (Has.new (has_old w) #[Value.bool th, Value.bool leaf, (Value.int .i64) r, Value.bool u, Value.bool d, (Value.int .i64) f] 59).new #[(Value.int .i64) l] 3
  have x1 := ((Ext.refl w).alloc (.cells #[Value.bool th, Value.bool leaf, (Value.int .i64) r, Value.bool u, Value.bool d, (Value.int .i64) f] 59)).alloc (.cells #[(Value.int .i64) l] 3)
  simp only [World.size_alloc] at h1
  have c6 := h1.cell 0
  obtain ⟨c0, c1, c2, c3, c4, c5⟩ := h1.right.cells6
  have HC := Lib.hid (caught_any w.heap.size (w.heap.size + 1) th leaf u d r f l _ c0 c1 c2 c3 c4 c5 c6 h1.right.lt h1.lt)
  clear c0 c1 c2 c3 c4 c5 c6
  go_enter Try.func116, Try.ntmps116
  go_wp2_with fail
  refine (HC.out).mono ?_; rintro e w2 ⟨rfl, bl⟩
  go_wp2
  go_ret
  exact ⟨rfl, below_of1 (h1.below bl).right.right (x1.below bl)⟩
end Go.Proofs.Ytacnjjjdkpbeaaa
