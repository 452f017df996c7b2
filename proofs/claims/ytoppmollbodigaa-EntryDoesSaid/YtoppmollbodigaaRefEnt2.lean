/- Contracts of the document's own answer on entries: WordOf, LeafMap. -/
import Derived.Test.YtoppmollbodigaaRefEnt
namespace Go.Proofs.Ytoppmollbodigaa
open Go.RowKit
set_option maxRecDepth 100000

set_option maxHeartbeats 2000000 in
theorem wordOf_any (e : En) (l : Int) (w : World) : Calls Try.prog 55 #[.agg #[Value.bool e.there, Value.bool e.leaf, (Value.int .i64) e.rights, Value.bool e.used, Value.bool e.dirty, (Value.int .i64) e.frame], .int .i64 l] w (Pure (.tuple #[(Value.int .u64) (encW e l), (Value.int .i64) (entFault e l)]) w) := by
  obtain ⟨th, leaf, r, u, d, f⟩ := e
  have h1 := Has.new (has_old w) #[Value.bool th, Value.bool leaf, (Value.int .i64) r, Value.bool u, Value.bool d, (Value.int .i64) f] 75
  have x1 := (Ext.refl w).alloc (.cells #[Value.bool th, Value.bool leaf, (Value.int .i64) r, Value.bool u, Value.bool d, (Value.int .i64) f] 75)
  have HC := Lib.hid (fun W => entryFault_any ⟨th, leaf, r, u, d, f⟩ l W)
  by_cases hc : entFault ⟨th, leaf, r, u, d, f⟩ l = 0
  · rw [hc] at HC ⊢
    cases th with
    | false =>
      have hy := Lib.hid (show encW ⟨false, leaf, r, u, d, f⟩ l = 0 by unfold encW; rw [if_neg (by simp)])
      clear hc
      go_enter Try.func55, Try.ntmps55
      go_wp2_with fail
      refine (HC.out _).mono ?_; rintro e w2 ⟨rfl, bl⟩
      have h2 := h1.below bl
      obtain ⟨c0, c1, c2, c3, c4, c5⟩ := h2.cells6
      go_wp2
      go_ret2
      exact ⟨by rw [hy.out]; rfl, below_of1 h2.right (x1.below bl)⟩
    | true =>
      have hk := entOk_of hc rfl
      have hy := Lib.hid (show encW ⟨true, leaf, r, u, d, f⟩ l = wordE ⟨true, leaf, r, u, d, f⟩ l by unfold encW; rw [if_pos ⟨hc, rfl⟩])
      have r0 : 0 ≤ r := hk.r0
      have r7 : r ≤ 7 := hk.r7
      have f0 : 0 ≤ f := hk.f0
      have f1 : f < 1048576 := hk.f1
      have l0 := hk.l0
      have l4 := hk.l4
      clear hc hk
      by_cases lz : l = 0
      · subst lz
        cases leaf <;> cases u <;> cases d
        all_goals
          go_enter Try.func55, Try.ntmps55
          go_wp2_with fail
          refine (HC.out _).mono ?_; rintro e w2 ⟨rfl, bl⟩
          have h2 := h1.below bl
          obtain ⟨c0, c1, c2, c3, c4, c5⟩ := h2.cells6
          have b2 := below_of1 h2.right (x1.below bl)
          clear h1 x1 h2 bl HC
          go_wp2
          go_ret2
          refine ⟨?_, b2⟩
          rw [hy.out]
          show Ending.returned (.tuple #[(Value.int .u64) _, (Value.int .i64) 0]) = _
          refine congrArg (fun n : Int => Ending.returned (.tuple #[(Value.int .u64) n, (Value.int .i64) 0])) ?_
          unfold wordE
          simp [b2i]; try omega
      · have hz : (l != 0) = true := by simpa using lz
        have hz' := Lib.hid hz
        clear lz
        cases leaf <;> cases u <;> cases d
        all_goals
          go_enter Try.func55, Try.ntmps55
          go_wp2_with fail
          refine (HC.out _).mono ?_; rintro e w2 ⟨rfl, bl⟩
          have h2 := h1.below bl
          obtain ⟨c0, c1, c2, c3, c4, c5⟩ := h2.cells6
          have b2 := below_of1 h2.right (x1.below bl)
          clear h1 x1 h2 bl HC
          go_wp2
          go_ret2
          refine ⟨?_, b2⟩
          rw [hy.out]
          show Ending.returned (.tuple #[(Value.int .u64) _, (Value.int .i64) 0]) = _
          refine congrArg (fun n : Int => Ending.returned (.tuple #[(Value.int .u64) n, (Value.int .i64) 0])) ?_
          unfold wordE
          simp [b2i, hz'.out]; try omega
  · have hy := Lib.hid (show encW ⟨th, leaf, r, u, d, f⟩ l = 0 from encW_fault hc)
    have hn : (entFault ⟨th, leaf, r, u, d, f⟩ l != 0) = true := by simpa using hc
    clear hc
    generalize entFault ⟨th, leaf, r, u, d, f⟩ l = c at *
    go_enter Try.func55, Try.ntmps55
    go_wp2_with fail
    refine (HC.out _).mono ?_; rintro e w2 ⟨rfl, bl⟩
    have h2 := h1.below bl
    go_wp2
    go_ret2
    exact ⟨by rw [hy.out]; rfl, below_of1 h2.right (x1.below bl)⟩
end Go.Proofs.Ytoppmollbodigaa
