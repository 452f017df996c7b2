/- The contract of entry.Encode. -/
import Derived.Test.YtacnjjjdkpbeaaaEntry3
import Derived.Lib.VarintBits
namespace Go.Proofs.Ytacnjjjdkpbeaaa
open Go.RowKit
set_option maxRecDepth 100000

theorem or_word (r f : Int) (u d lf : Bool) (r0 : 0 ≤ r) (r7 : r ≤ 7) (f0 : 0 ≤ f) (f1 : f < 1048576) :
    bits .or .u64 (bits .or .u64 (bits .or .u64 (bits .or .u64 (bits .or .u64 1 (r * 2)) (b2i u 32)) (b2i d 64)) (b2i lf 128)) (f * 4096) = f * 4096 + r * 2 + 1 + b2i u 32 + b2i d 64 + b2i lf 128 := by
  have hu : b2i u 32 = 0 ∨ b2i u 32 = 32 := by cases u <;> simp [b2i]
  have hd : b2i d 64 = 0 ∨ b2i d 64 = 64 := by cases d <;> simp [b2i]
  have hl : b2i lf 128 = 0 ∨ b2i lf 128 = 128 := by cases lf <;> simp [b2i]
  generalize b2i u 32 = a at *
  generalize b2i d 64 = b at *
  generalize b2i lf 128 = c at *
  rw [bits_join_low .u64 64 (by decide) wraps_u64 1 1 (r * 2) (by omega) (by omega) (by omega) (by omega) (by omega) (by omega)]
  rw [bits_join_low .u64 64 (by decide) wraps_u64 5 (1 + r * 2) a (by omega) (by omega) (by omega) (by omega) (by omega) (by omega)]
  rw [bits_join_low .u64 64 (by decide) wraps_u64 6 (1 + r * 2 + a) b (by omega) (by omega) (by omega) (by omega) (by omega) (by omega)]
  rw [bits_join_low .u64 64 (by decide) wraps_u64 7 (1 + r * 2 + a + b) c (by omega) (by omega) (by omega) (by omega) (by omega) (by omega)]
  rw [bits_join_low .u64 64 (by decide) wraps_u64 12 (1 + r * 2 + a + b + c) (f * 4096) (by omega) (by omega) (by omega) (by omega) (by omega) (by omega)]
  omega
set_option maxHeartbeats 2000000 in
theorem encode_any (e : En) (l : Int) (w : World) : Calls Try.prog 106 #[.agg #[Value.bool e.there, Value.bool e.leaf, (Value.int .i64) e.rights, Value.bool e.used, Value.bool e.dirty, (Value.int .i64) e.frame], .int .i64 l] w (Pure (.tuple #[(Value.int .u64) (encW e l), (Value.int .i64) (entFault e l)]) w) := by
  obtain ⟨th, leaf, r, u, d, f⟩ := e
  have h1 := Has.new (has_old w) #[Value.bool th, Value.bool leaf, (Value.int .i64) r, Value.bool u, Value.bool d, (Value.int .i64) f] 59
  have x1 := (Ext.refl w).alloc (.cells #[Value.bool th, Value.bool leaf, (Value.int .i64) r, Value.bool u, Value.bool d, (Value.int .i64) f] 59)
  have HC := Lib.hid (fun W => entCheck_any ⟨th, leaf, r, u, d, f⟩ l W)
  by_cases hc : entFault ⟨th, leaf, r, u, d, f⟩ l = 0
  · rw [hc] at HC ⊢
    cases th with
    | false =>
      have hy := Lib.hid (show encW ⟨false, leaf, r, u, d, f⟩ l = 0 by unfold encW; rw [if_neg (by simp)])
      clear hc
      go_enter Try.func106, Try.ntmps106
      go_wp2_with fail
      refine (HC.out _).mono ?_; rintro e w2 ⟨rfl, bl⟩
      have h2 := h1.below bl
      obtain ⟨c0, c1, c2, c3, c4, c5⟩ := h2.cells6
      go_wp2
      go_ret2
      exact ⟨by rw [hy.out]; rfl, below_of1 h2.right (x1.below bl)⟩
    | true =>
      have hk := entOk_of hc rfl
      have hy := Lib.hid (show encW ⟨true, leaf, r, u, d, f⟩ l = wordE ⟨true, leaf, r, u, d, f⟩ l by unfold encW; rw [if_pos ⟨hc, rfl⟩])
      have r0 : 0 ≤ r := hk.r0
      have r7 : r ≤ 7 := hk.r7
      have f0 : 0 ≤ f := hk.f0
      have f1 : f < 1048576 := hk.f1
      have l0 := hk.l0
      have l4 := hk.l4
      clear hc hk
      cases leaf with
      | false =>
        go_enter Try.func106, Try.ntmps106
        go_wp2_with fail
        refine (HC.out _).mono ?_; rintro e w2 ⟨rfl, bl⟩
        have h2 := h1.below bl
        obtain ⟨c0, c1, c2, c3, c4, c5⟩ := h2.cells6
        have v0 := via_cell c0
        have v1 := via_cell c1
        have v2 := via_cell c2
        have v3 := via_cell c3
        have v4 := via_cell c4
        have v5 := via_cell c5
        clear c1 c2 c3 c4 c5
        go_wp2
        refine wp_region_via (by kernel_rfl) (by kernel_rfl) ?_
        repeat (first | go_big_quiet_step ((go_at_call 125; exact Same.via (bit_any _ _ _))) | quiet_step ((go_at_call 125; exact Same.via (bit_any _ _ _))))
        refine wpQuiet_nil ?_
        intro _ hw'
        obtain ⟨uq, hw''⟩ := hw'
        subst hw''
        go_wp2
        go_ret2
        refine ⟨?_, below_of1 (h2.via _).right ((x1.below bl).below (via_below _ _))⟩
        rw [hy.out]
        show Ending.returned (.tuple #[(Value.int .u64) _, (Value.int .i64) 0]) = _
        refine congrArg (fun n : Int => Ending.returned (.tuple #[(Value.int .u64) n, (Value.int .i64) 0])) ?_
        exact (or_word r f u d _ r0 r7 f0 f1).trans (by unfold wordE; simp)
      | true =>
        by_cases lz : l = 0
        · subst lz
          go_enter Try.func106, Try.ntmps106
          go_wp2_with fail
          refine (HC.out _).mono ?_; rintro e w2 ⟨rfl, bl⟩
          have h2 := h1.below bl
          obtain ⟨c0, c1, c2, c3, c4, c5⟩ := h2.cells6
          have v0 := via_cell c0
          have v1 := via_cell c1
          have v2 := via_cell c2
          have v3 := via_cell c3
          have v4 := via_cell c4
          have v5 := via_cell c5
          clear c1 c2 c3 c4 c5
          go_wp2
          refine wp_region_via (by kernel_rfl) (by kernel_rfl) ?_
          repeat (first | go_big_quiet_step ((go_at_call 125; exact Same.via (bit_any _ _ _))) | quiet_step ((go_at_call 125; exact Same.via (bit_any _ _ _))))
          refine wpQuiet_nil ?_
          intro _ hw'
          obtain ⟨uq, hw''⟩ := hw'
          subst hw''
          go_wp2
          go_ret2
          refine ⟨?_, below_of1 (h2.via _).right ((x1.below bl).below (via_below _ _))⟩
          rw [hy.out]
          show Ending.returned (.tuple #[(Value.int .u64) _, (Value.int .i64) 0]) = _
          refine congrArg (fun n : Int => Ending.returned (.tuple #[(Value.int .u64) n, (Value.int .i64) 0])) ?_
          exact (or_word r f u d _ r0 r7 f0 f1).trans (by unfold wordE; simp)
        · have l1 : 0 < l := by omega
          have hz := Lib.hid (show (l != 0) = true by simpa using lz)
          clear lz
          go_enter Try.func106, Try.ntmps106
          go_wp2_with fail
          refine (HC.out _).mono ?_; rintro e w2 ⟨rfl, bl⟩
          have h2 := h1.below bl
          obtain ⟨c0, c1, c2, c3, c4, c5⟩ := h2.cells6
          have v0 := via_cell c0
          have v1 := via_cell c1
          have v2 := via_cell c2
          have v3 := via_cell c3
          have v4 := via_cell c4
          have v5 := via_cell c5
          clear c1 c2 c3 c4 c5
          go_wp2
          refine wp_region_via (by kernel_rfl) (by kernel_rfl) ?_
          repeat (first | go_big_quiet_step ((go_at_call 125; exact Same.via (bit_any _ _ _))) | quiet_step ((go_at_call 125; exact Same.via (bit_any _ _ _))))
          refine wpQuiet_nil ?_
          intro _ hw'
          obtain ⟨uq, hw''⟩ := hw'
          subst hw''
          go_wp2
          go_ret2
          refine ⟨?_, below_of1 (h2.via _).right ((x1.below bl).below (via_below _ _))⟩
          rw [hy.out]
          show Ending.returned (.tuple #[(Value.int .u64) _, (Value.int .i64) 0]) = _
          refine congrArg (fun n : Int => Ending.returned (.tuple #[(Value.int .u64) n, (Value.int .i64) 0])) ?_
          exact (or_word r f u d _ r0 r7 f0 f1).trans (by unfold wordE; rw [hz.out]; simp)
  · have hy := Lib.hid (show encW ⟨th, leaf, r, u, d, f⟩ l = 0 from encW_fault hc)
    have hn : (entFault ⟨th, leaf, r, u, d, f⟩ l != 0) = true := by simpa using hc
    clear hc
    generalize entFault ⟨th, leaf, r, u, d, f⟩ l = c at *
    go_enter Try.func106, Try.ntmps106
    go_wp2_with fail
    refine (HC.out _).mono ?_; rintro e w2 ⟨rfl, bl⟩
    have h2 := h1.below bl
    go_wp2
    go_ret2
    exact ⟨by rw [hy.out]; rfl, below_of1 h2.right (x1.below bl)⟩
end Go.Proofs.Ytacnjjjdkpbeaaa
