/- That the same lines are the same, for the laws' sameLines. -/
import Derived.Test.YtndhgomikpokpaaCoreR
import Derived.Test.YtndhgomikpokpaaFrame
namespace Go.Proofs.Ytndhgomikpokpaa
open Go.RowKit
set_option maxRecDepth 100000

theorem sameLines_any (l : List Ln) (A B : Option Addr) (n c n' c' : Nat) (R : HProp) (w : World) (h : Has w (lrow (.slice A n c) l * (rrow (.slice B n' c') l * R))) :
    Calls Try.prog 86 #[.slice A n c, .slice B n' c'] w (Pure (Value.bool true) w) := by
  have hn := lrow_len h
  have hn' := rrow_len h.right
  subst hn
  subst hn'
  obtain ⟨hbig, _⟩ := lrow_small h
  go_enter Try.func86, Try.ntmps86
  go_wp2_with fail
  go_loopw [5] (fun s5 wr => ∃ i : Nat, i ≤ l.length ∧ s5 = (Value.int .i64) i ∧ Below w.heap.size w wr) (fun s5 _ => l.length - (intOf s5).toNat)
  case atStart => exact ⟨0, Nat.zero_le _, rfl, Below.refl _ _⟩
  case round =>
    obtain ⟨i, hi, rfl, BW⟩ := hrel
    have h' := h.below BW
    clear h
    have BW' := Lib.hid BW
    clear BW
    by_cases hlt : i < l.length
    · obtain ⟨b, rfl, hb, ⟨c0, c1, c2, c3, c4⟩, _⟩ := lrow_at h' hlt
      obtain ⟨b', off, rfl, hb', d0, d1, d2, d3, d4⟩ := rrow_at h'.right hlt
      clear h'
      generalize l[i] = x at c0 c1 c2 c3 c4 d0 d1 d2 d3 d4
      have v0 := via_cell c0
      have v1 := via_cell c1
      have v2 := via_cell c2
      have v3 := via_cell c3
      have v4 := via_cell c4
      have u0 := via_cell d0
      have u1 := via_cell d1
      have u2 := via_cell d2
      have u3 := via_cell d3
      have u4 := via_cell d4
      clear c0 c1 c2 c3 c4 d0 d1 d2 d3 d4
      go_wp2_with fail
      refine wp_region_via (by kernel_rfl) (by kernel_rfl) ?_
      repeat (first | go_big_quiet_step (fail) | quiet_step (fail))
      refine wpQuiet_nil ?_
      intro _ hw'
      obtain ⟨uq, hw''⟩ := hw'
      subst hw''
      go_wp2_with fail
      go_roundw
      case rel => exact ⟨i + 1, by omega, by go_num, BW'.out.trans ((via_below _ _).mono BW'.out.size)⟩
      case measure => simp [intOf]; omega
    · go_wp2_with fail
      go_ret
      exact ⟨rfl, BW'.out⟩
/-- The document's lines lose the first. -/
theorem core_tail {q g off c : Nat} {y : Ln} {l : List Ln} {k : Ck} {R : HProp} {w : World} (h : Has w (coreIn q (some ⟨g, off, none⟩) c (y :: l) k R)) :
    Has (w.setCell ⟨q, 0, none⟩ (.slice (if c = 1 then some ⟨g, off, none⟩ else some ⟨g, off + 5, none⟩) l.length (c - 1))) (coreAt q l k * R) := by
  refine coreAt_shut (A := if c = 1 then some ⟨g, off, none⟩ else some ⟨g, off + 5, none⟩) (c := c - 1) ?_
  have h4 := h.p2
  unfold rrow at h4
  have h5 := Has.rowOTail h4
  exact Has.set h5.p2 0 _
end Go.Proofs.Ytndhgomikpokpaa
