/- Contracts of the document's own memory of frames. -/
import Derived.Test.YtacnjjjdkpbeaaaFrames3
namespace Go.Proofs.Ytacnjjjdkpbeaaa
open Go.RowKit
set_option maxRecDepth 100000

def wc (s : Ms) : Nat → Value := fun j => (Value.int .u64) (s.wd (j / 8) (j % 8))
def tc (s : Ms) : Nat → Value := fun j => Value.bool (s.tk j)
/-- A Mem at block q: its words at gw, who is in use at gi, those that were given back in vk. -/
def memIn (q gw gi : Nat) (vk : Value) (s : Ms) (R : HProp) : HProp :=
  blk q #[.slice (some ⟨gw, 0, none⟩) s.n s.n, .slice (some ⟨gi, 0, none⟩) s.n s.n, vk, (Value.int .i64) (s.next : Nat)] 112 *
    (blk gw (tabA (s.n * 8) (wc s)) 108 * (blk gi (tabA s.n (tc s)) 4 * (row 3 1 vk s.back.length (ints s.back) * R)))

theorem memTaken_any (q gw gi : Nat) (vk : Value) (s : Ms) (k : Int) (R : HProp) (w : World) (h : Has w (memIn q gw gi vk s R)) :
    Calls Try.prog 88 #[.pointer (some ⟨q, 0, none⟩), .int .i64 k] w (Same (Value.bool (s.has k)) w) := by
  obtain ⟨c0, c1, c2, c3⟩ := h.cells4
  by_cases h0 : 0 ≤ k
  · by_cases h4 : k < s.n
    · obtain ⟨k, rfl⟩ := Int.eq_ofNat_of_zero_le h0
      have hc : w.cell? ⟨gi, k, none⟩ = some (Value.bool (s.tk k)) := h.right.right.tabGet (j := k) (by omega)
      have hy := Lib.hid (has_yes (s := s) (k := k) (by omega))
      have hg := h.right.right.lt
      go_enter Try.func88, Try.ntmps88
      go_wp2
      go_ret
      exact ⟨by rw [hy.out]; rfl, rfl⟩
    · have hy := Lib.hid (has_no (s := s) (k := k) (by omega))
      go_enter Try.func88, Try.ntmps88
      go_wp2
      go_ret
      exact ⟨by rw [hy.out]; rfl, rfl⟩
  · have hy := Lib.hid (has_no (s := s) (k := k) (by omega))
    go_enter Try.func88, Try.ntmps88
    go_wp2
    go_ret
    exact ⟨by rw [hy.out]; rfl, rfl⟩
end Go.Proofs.Ytacnjjjdkpbeaaa
