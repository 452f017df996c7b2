/- What a core keeps, as plain Lean: lines, the oldest first; with no program in sight. -/
import Derived.Test.YtndhgomikpokpaaModel
import Derived.Test.YtndhgomikpokpaaBookM
namespace Go.Proofs.Ytndhgomikpokpaa
open Go.RowKit

structure Ln where
  m : Mp
  dirty : Bool
  deriving DecidableEq
def Ln.cells (x : Ln) : List Value := [(Value.int .i64) x.m.page, (Value.int .i64) x.m.size, (Value.int .i64) x.m.frame, (Value.int .i64) x.m.rights, Value.bool x.dirty]
/-- Cells of many lines, one behind the other. -/
def lcells (l : List Ln) : List Value := l.flatMap Ln.cells
theorem lcells_len (l : List Ln) : (lcells l).length = l.length * 5 := by
  induction l with
  | nil => rfl
  | cons x l ih =>
    show (x.cells ++ lcells l).length = _
    rw [List.length_append, ih]
    simp [Ln.cells]
    omega
theorem lcells_append (a b : List Ln) : lcells (a ++ b) = lcells a ++ lcells b := by simp [lcells]

namespace Tl
def drop (l : List Ln) (m : Mp) : List Ln := l.filter fun x => !meet x.m m
def room (l : List Ln) : List Ln := if l.length = 6 then l.tail else l
def put (l : List Ln) (x : Ln) : List Ln := if check x.m = 0 then room (drop l x.m) ++ [x] else l
def evict (l : List Ln) : List Ln := l.tail
def find (l : List Ln) (p : Int) : Option Ln := l.find? fun x => over x.m p
/-- What a core keeps: mappings that may be, no two of which meet, and not too many. -/
structure Ok (l : List Ln) : Prop where
  len : l.length ≤ 6
  chk : ∀ x ∈ l, check x.m = 0
  apart : l.Pairwise fun a b => meet a.m b.m = false
theorem Ok.nil : Ok [] := ⟨by simp, fun x h => (by cases h), List.Pairwise.nil⟩
theorem Ok.sub {l k : List Ln} (h : Ok l) (s : k.Sublist l) : Ok k :=
  ⟨Nat.le_trans s.length_le h.len, fun x hx => h.chk x (s.subset hx), h.apart.sublist s⟩
theorem Ok.drop {l : List Ln} (h : Ok l) (m : Mp) : Ok (drop l m) := h.sub List.filter_sublist
theorem Ok.evict {l : List Ln} (h : Ok l) : Ok (evict l) := h.sub (List.tail_sublist l)
theorem drop_apart (l : List Ln) (m : Mp) : ∀ x ∈ drop l m, meet x.m m = false := fun x hx => by
  have := (List.mem_filter.1 hx).2
  simpa using this
theorem room_sub (l : List Ln) : (room l).Sublist l := by
  unfold room
  split
  · exact List.tail_sublist l
  · exact List.Sublist.refl l
theorem room_len {l : List Ln} (h : l.length ≤ 6) : (room l).length ≤ 5 := by
  unfold room
  split
  · simp; omega
  · omega
theorem Ok.put {l : List Ln} (h : Ok l) (x : Ln) : Ok (put l x) := by
  unfold Tl.put
  split
  · rename_i hc
    have hd := h.drop x.m
    have hr := hd.sub (room_sub _)
    refine ⟨?_, fun y hy => ?_, ?_⟩
    · have := room_len hd.len
      simp
      omega
    · rcases List.mem_append.1 hy with hy | hy
      · exact hr.chk y hy
      · rw [List.mem_singleton.1 hy]
        exact hc
    · rw [List.pairwise_append]
      refine ⟨hr.apart, List.pairwise_singleton _ _, fun a ha b hb => ?_⟩
      rw [List.mem_singleton.1 hb]
      exact drop_apart l x.m a ((room_sub _).subset ha)
  · exact h
/-- A line that was put, with what was put behind it. -/
def At (l : List Ln) (x : Ln) (n : Nat) : Prop := ∃ a b, l = a ++ x :: b ∧ b.length ≤ n
theorem At.put (l : List Ln) {x : Ln} (h : check x.m = 0) : At (put l x) x 0 := ⟨_, [], by unfold Tl.put; rw [if_pos h], Nat.le_refl _⟩
theorem At.drop {l : List Ln} {x : Ln} {n : Nat} (h : At l x n) {m : Mp} (hm : meet x.m m = false) : At (drop l m) x n := by
  obtain ⟨a, b, rfl, hb⟩ := h
  refine ⟨Tl.drop a m, Tl.drop b m, ?_, Nat.le_trans (List.length_filter_le _ _) hb⟩
  unfold Tl.drop
  rw [List.filter_append, List.filter_cons]
  simp [hm]
theorem At.room {l : List Ln} {x : Ln} {n : Nat} (h : At l x n) (hn : n < 5) : At (room l) x n := by
  obtain ⟨a, b, rfl, hb⟩ := h
  unfold Tl.room
  split
  · rename_i hl
    cases a with
    | nil => simp at hl; omega
    | cons y a => exact ⟨a, b, rfl, hb⟩
  · exact ⟨a, b, rfl, hb⟩
theorem At.more {l : List Ln} {x : Ln} {n : Nat} (h : At l x n) (hn : n < 5) {y : Ln} (hm : meet x.m y.m = false) (hc : check y.m = 0) : At (Tl.put l y) x (n + 1) := by
  unfold Tl.put
  rw [if_pos hc]
  obtain ⟨a, b, e, hb⟩ := (h.drop hm).room hn
  rw [e]
  exact ⟨a, b ++ [y], by simp, by simp; omega⟩
/-- Of lines that are apart, the one that has a page is found. -/
theorem At.find {l : List Ln} {x : Ln} {n : Nat} {p : Int} (h : At l x n) (hp : ∀ y ∈ l, y ≠ x → over y.m p = false) (ho : over x.m p = true) : find l p = some x := by
  unfold Tl.find
  obtain ⟨a, b, rfl, _⟩ := h
  rw [List.find?_append]
  cases hf : a.find? fun x => over x.m p with
  | none => simp [ho]
  | some y =>
    have h1 := List.find?_some hf
    have h2 := List.mem_of_find?_eq_some hf
    by_cases e : y = x
    · rw [e]; rfl
    · have := hp y (List.mem_append_left _ h2) e
      rw [this] at h1
      cases h1
end Tl
end Go.Proofs.Ytndhgomikpokpaa

namespace Go.Proofs.Ytndhgomikpokpaa
open Go.RowKit
theorem meet_of_over {a b : Mp} {p : Int} (ha : over a p = true) (hb : over b p = true) : meet a b = true := by
  rw [over_iff] at ha hb
  unfold meet
  rw [Bool.or_eq_true, over_iff, over_iff]
  omega
theorem meet_symm (a b : Mp) : meet a b = meet b a := Bool.or_comm _ _
namespace Tl
theorem Ok.one {l : List Ln} (h : Ok l) {x y : Ln} (hx : x ∈ l) (hy : y ∈ l) {p : Int} (ox : over x.m p = true) (oy : over y.m p = true) : x = y := by
  obtain ⟨i, hi, rfl⟩ := List.getElem_of_mem hx
  obtain ⟨j, hj, rfl⟩ := List.getElem_of_mem hy
  have hm := meet_of_over ox oy
  rcases Nat.lt_trichotomy i j with hlt | rfl | hlt
  · rw [List.pairwise_iff_getElem.1 h.apart i j hi hj hlt] at hm; cases hm
  · rfl
  · rw [meet_symm, List.pairwise_iff_getElem.1 h.apart j i hj hi hlt] at hm; cases hm
theorem Ok.find {l : List Ln} (h : Ok l) {x : Ln} {n : Nat} {p : Int} (ha : At l x n) (ho : over x.m p = true) : find l p = some x := by
  refine ha.find (fun y hy hne => ?_) ho
  have hx : x ∈ l := by
    obtain ⟨a, b, rfl, _⟩ := ha
    simp
  cases hq : over y.m p with
  | false => rfl
  | true => exact absurd (h.one hy hx hq ho) hne
/-- The document's way to look: the first line that has the page. -/
def idx (l : List Ln) (p : Int) : Int := match l.findIdx? fun x => over x.m p with | some k => (k : Int) | none => -1
theorem idx_find (l : List Ln) (p : Int) : (find l p = none ∧ idx l p = -1) ∨ ∃ (k : Nat) (h : k < l.length), idx l p = k ∧ find l p = some l[k] ∧ over l[k].m p = true := by
  unfold find idx
  cases hf : l.findIdx? fun x => over x.m p with
  | none =>
    left
    refine ⟨?_, rfl⟩
    rw [List.find?_eq_none]
    intro x hx
    have := List.findIdx?_eq_none_iff.1 hf x hx
    simpa using this
  | some k =>
    right
    obtain ⟨hk, h1, h2⟩ := List.findIdx?_eq_some_iff_getElem.1 hf
    refine ⟨k, hk, rfl, ?_, h1⟩
    rw [List.find?_eq_some_iff_getElem]
    exact ⟨h1, k, hk, rfl, fun j hj => by have := h2 j hj; simpa using this⟩
end Tl
end Go.Proofs.Ytndhgomikpokpaa
