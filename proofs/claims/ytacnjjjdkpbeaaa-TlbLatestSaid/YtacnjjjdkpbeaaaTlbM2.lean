/- More of what a core keeps: the line of a page is one. -/
import Derived.Test.YtacnjjjdkpbeaaaTlbM
import Derived.Test.YtacnjjjdkpbeaaaBookM
namespace Go.Proofs.Ytacnjjjdkpbeaaa
open Go.RowKit
theorem meet_of_over {a b : Mp} {p : Int} (ha : over a p = true) (hb : over b p = true) : meet a b = true := by
  rw [over_iff] at ha hb
  unfold meet
  rw [Bool.or_eq_true, over_iff, over_iff]
  omega
theorem meet_symm (a b : Mp) : meet a b = meet b a := Bool.or_comm _ _
namespace Tl
theorem Ok.one {l : List Ln} (h : Ok l) {x y : Ln} (hx : x ∈ l) (hy : y ∈ l) {p : Int} (ox : over x.m p = true) (oy : over y.m p = true) : x = y := by
  obtain ⟨i, hi, rfl⟩ := List.getElem_of_mem hx
  obtain ⟨j, hj, rfl⟩ := List.getElem_of_mem hy
  have hm := meet_of_over ox oy
  rcases Nat.lt_trichotomy i j with hlt | rfl | hlt
  · rw [List.pairwise_iff_getElem.1 h.apart i j hi hj hlt] at hm; cases hm
  · rfl
  · rw [meet_symm, List.pairwise_iff_getElem.1 h.apart j i hj hi hlt] at hm; cases hm
theorem Ok.find {l : List Ln} (h : Ok l) {x : Ln} {n : Nat} {p : Int} (ha : At l x n) (ho : over x.m p = true) : find l p = some x := by
  refine ha.find (fun y hy hne => ?_) ho
  have hx : x ∈ l := by
    obtain ⟨a, b, rfl, _⟩ := ha
    simp
  cases hq : over y.m p with
  | false => rfl
  | true => exact absurd (h.one hy hx hq ho) hne
/-- The document's way to look: the first line that has the page. -/
def idx (l : List Ln) (p : Int) : Int := match l.findIdx? fun x => over x.m p with | some k => (k : Int) | none => -1
theorem idx_find (l : List Ln) (p : Int) : (find l p = none ∧ idx l p = -1) ∨ ∃ (k : Nat) (h : k < l.length), idx l p = k ∧ find l p = some l[k] ∧ over l[k].m p = true := by
  unfold find idx
  cases hf : l.findIdx? fun x => over x.m p with
  | none =>
    left
    refine ⟨?_, rfl⟩
    rw [List.find?_eq_none]
    intro x hx
    have := List.findIdx?_eq_none_iff.1 hf x hx
    simpa using this
  | some k =>
    right
    obtain ⟨hk, h1, h2⟩ := List.findIdx?_eq_some_iff_getElem.1 hf
    refine ⟨k, hk, rfl, ?_, h1⟩
    rw [List.find?_eq_some_iff_getElem]
    exact ⟨h1, k, hk, rfl, fun j hj => by have := h2 j hj; simpa using this⟩
end Tl
end Go.Proofs.Ytacnjjjdkpbeaaa
