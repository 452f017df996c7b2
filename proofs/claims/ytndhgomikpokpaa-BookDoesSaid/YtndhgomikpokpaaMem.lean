/- Contracts of the document's own memory of frames. -/
import Derived.Test.YtndhgomikpokpaaFrames3
namespace Go.Proofs.Ytndhgomikpokpaa
open Go.RowKit
set_option maxRecDepth 100000

def wc (s : Ms) : Nat → Value := fun j => (Value.int .u64) (s.wd (j / 8) (j % 8))
def tc (s : Ms) : Nat → Value := fun j => Value.bool (s.tk j)
/-- A Mem at block q: its words at gw, who is in use at gi, those that were given back in vk. -/
def memIn (q gw gi : Nat) (vk : Value) (s : Ms) (R : HProp) : HProp :=
  blk q #[.slice (some ⟨gw, 0, none⟩) s.n s.n, .slice (some ⟨gi, 0, none⟩) s.n s.n, vk, (Value.int .i64) (s.next : Nat)] 74 *
    (blk gw (tabA (s.n * 8) (wc s)) 70 * (blk gi (tabA s.n (tc s)) 4 * (row 3 1 vk s.back.length (ints s.back) * R)))

theorem memTaken_any (q gw gi : Nat) (vk : Value) (s : Ms) (k : Int) (R : HProp) (w : World) (h : Has w (memIn q gw gi vk s R)) :
    Calls Try.prog 99 #[.pointer (some ⟨q, 0, none⟩), .int .i64 k] w (Same (Value.bool (s.has k)) w) := by
  obtain ⟨c0, c1, c2, c3⟩ := h.cells4
  by_cases h0 : 0 ≤ k
  · by_cases h4 : k < s.n
    · obtain ⟨k, rfl⟩ := Int.eq_ofNat_of_zero_le h0
      have hc : w.cell? ⟨gi, k, none⟩ = some (Value.bool (s.tk k)) := h.right.right.tabGet (j := k) (by omega)
      have hy := Lib.hid (has_yes (s := s) (k := k) (by omega))
      have hg := h.right.right.lt
      go_enter Try.func99, Try.ntmps99
      go_wp2
      go_ret
      exact ⟨by rw [hy.out]; rfl, rfl⟩
    · have hy := Lib.hid (has_no (s := s) (k := k) (by omega))
      go_enter Try.func99, Try.ntmps99
      go_wp2
      go_ret
      exact ⟨by rw [hy.out]; rfl, rfl⟩
  · have hy := Lib.hid (has_no (s := s) (k := k) (by omega))
    go_enter Try.func99, Try.ntmps99
    go_wp2
    go_ret
    exact ⟨by rw [hy.out]; rfl, rfl⟩
theorem memFree_any (q gw gi : Nat) (vk : Value) (s : Ms) (R : HProp) (w : World) (h : Has w (memIn q gw gi vk s R)) (hle : s.next ≤ s.n) (hn : s.n ≤ 1000) (hb : s.back.length ≤ 1000000) :
    Calls Try.prog 69 #[.pointer (some ⟨q, 0, none⟩)] w (Pure ((Value.int .i64) (s.frees.length : Nat)) w) := by
  obtain ⟨A, c, rfl⟩ := h.right.right.right.rowForm
  obtain ⟨c0, c1, c2, c3⟩ := h.cells4
  have v0 := via_cell c0
  have v1 := via_cell c1
  have v2 := via_cell c2
  have v3 := via_cell c3
  have hy := Lib.hid (show ((s.frees.length : Nat) : Int) = s.back.length + s.n - s.next by rw [Ms.frees_len]; omega)
  go_enter Try.func69, Try.ntmps69
  go_wp2
  refine wp_region_via (by kernel_rfl) (by kernel_rfl) ?_
  repeat (first | go_big_quiet_step (fail) | quiet_step (fail))
  refine wpQuiet_nil ?_
  intro _ hw'
  obtain ⟨uq, hw''⟩ := hw'
  subst hw''
  go_wp2
  go_ret
  exact ⟨by rw [hy.out]; rfl, via_below _ _⟩
end Go.Proofs.Ytndhgomikpokpaa
