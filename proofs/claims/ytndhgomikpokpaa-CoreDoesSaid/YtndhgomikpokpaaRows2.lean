/- Rows of one's own, whose elements are of several cells: read, written, cut. Plain lemmas. -/
import Derived.Test.YtndhgomikpokpaaSep
import Derived.Laws.IdiomCopy
namespace Go.Proofs.Ytndhgomikpokpaa
open Go.RowKit

section
variable {w : World} {R : HProp} {e size : Nat} {A : Option Addr} {n c : Nat} {xs : List Value}
/-- A row of one's own that has an element stands at the head of a block. -/
theorem Has.rowAt (h : Has w (row e size (.slice A n c) n xs * R)) (hn : 0 < n) :
    ∃ g cur, A = some ⟨g, 0, none⟩ ∧ n ≤ c ∧ c ≤ maxLen ∧ cur.size = c * size ∧ cur.toList.take (n * size) = xs ∧ Has w (blk g cur e * R) := by
  rcases h.rowCases with ⟨hv, rfl, _, _⟩ | ⟨g, cap, cur, hv, h1, h2, h3, h4, hb⟩
  · omega
  · injection hv with e1 e2 e3
    subst e1; subst e3
    exact ⟨g, cur, rfl, h1, h2, h3, h4, hb⟩
theorem Has.rowLens (h : Has w (row e size (.slice A n c) n xs * R)) : xs.length = n * size ∧ n ≤ 9223372036854775807 := by
  have := h.ownsRow.1
  refine ⟨this, ?_⟩
  rcases h.rowCases with ⟨hv, rfl, _, _⟩ | ⟨g, cap, cur, hv, h1, h2, h3, h4, hb⟩
  · omega
  · unfold maxLen at h2; omega
/-- One cell of it. -/
theorem Has.rowGet (h : Has w (row e size (.slice A n c) n xs * R)) {i : Nat} {u : Value} (hu : xs[i]? = some u) :
    ∃ g, A = some ⟨g, 0, none⟩ ∧ g < w.heap.size ∧ w.cell? ⟨g, i, none⟩ = some u ∧ w.frozen? ⟨g, i, none⟩ = false := by
  have hl := h.rowLens.1
  have hi : i < xs.length := (List.getElem?_eq_some_iff.1 hu).1
  have hn : 0 < n := by
    rcases Nat.eq_zero_or_pos n with h0 | h0
    · subst h0; omega
    · exact h0
  obtain ⟨g, cur, rfl, h1, h2, h3, h4, hb⟩ := h.rowAt hn
  refine ⟨g, rfl, hb.lt, ?_, hb.free i⟩
  rw [hb.cell, ← hu, ← h4, List.getElem?_take, if_pos (by omega)]
  simp
/-- A cell of it is written. -/
theorem Has.rowSet {g : Nat} (h : Has w (row e size (.slice (some ⟨g, 0, none⟩) n c) n xs * R)) {i : Nat} (hi : i < n * size) (u : Value) :
    Has (w.setCell ⟨g, i, none⟩ u) (row e size (.slice (some ⟨g, 0, none⟩) n c) n (xs.set i u) * R) := by
  have hl := h.rowLens.1
  have hn : 0 < n := by
    rcases Nat.eq_zero_or_pos n with h0 | h0
    · subst h0; omega
    · exact h0
  obtain ⟨g', cur, hg, h1, h2, h3, h4, hb⟩ := h.rowAt hn
  injection hg with hg
  injection hg with hg
  subst hg
  refine (hb.set i u).rowOf ?_ h1 h2 (by simp [h3]) ?_
  · simp [hl]
  · rw [← h4]
    simp [List.take_set]
/-- Its first k elements. -/
theorem Has.rowCut {g k : Nat} (h : Has w (row e size (.slice (some ⟨g, 0, none⟩) n c) n xs * R)) (hk : k ≤ n) :
    Has w (row e size (.slice (some ⟨g, 0, none⟩) k c) k (xs.take (k * size)) * R) := by
  have hl := h.rowLens.1
  rcases h.rowCases with ⟨hv, _, _, _⟩ | ⟨g', cap, cur, hv, h1, h2, h3, h4, hb⟩
  · injection hv with a; cases a
  · injection hv with e1 e2 e3
    injection e1 with e1
    injection e1 with e1
    subst e1; subst e3
    have hks : k * size ≤ n * size := Nat.mul_le_mul_right _ hk
    refine hb.rowOf ?_ (by omega) h2 h3 ?_
    · rw [List.length_take, hl]; omega
    · rw [← h4, List.take_take, Nat.min_eq_left hks]
/-- A cell of its spare room is written. -/
theorem Has.rowSpare {g : Nat} (h : Has w (row e size (.slice (some ⟨g, 0, none⟩) n c) n xs * R)) {i : Nat} (hi : n * size ≤ i) (u : Value) :
    Has (w.setCell ⟨g, i, none⟩ u) (row e size (.slice (some ⟨g, 0, none⟩) n c) n xs * R) := by
  have hl := h.rowLens.1
  rcases h.rowCases with ⟨hv, _, _, _⟩ | ⟨g', cap, cur, hv, h1, h2, h3, h4, hb⟩
  · injection hv with a; cases a
  · injection hv with e1 e2 e3
    injection e1 with e1
    injection e1 with e1
    subst e1; subst e3
    refine (hb.set i u).rowOf hl h1 h2 (by simp [h3]) ?_
    rw [← h4, Array.toList_setIfInBounds, List.take_set_of_le hi]
/-- Many cells of it are written, one behind the other. -/
theorem Has.rowSetCells {g : Nat} : ∀ (vs : List Value) {w : World} {xs : List Value} (i : Nat), Has w (row e size (.slice (some ⟨g, 0, none⟩) n c) n xs * R) → i + vs.length ≤ n * size →
    Has (w.setCells g i vs) (row e size (.slice (some ⟨g, 0, none⟩) n c) n (xs.take i ++ (vs ++ xs.drop (i + vs.length))) * R)
  | [], w, xs, i, h, _ => by
    have e1 : xs.take i ++ ([] ++ xs.drop (i + ([] : List Value).length)) = xs := by simp
    rw [e1]
    exact h
  | v :: r, w, xs, i, h, hi => by
    simp only [List.length_cons] at hi
    have h1 := h.rowSet (i := i) (by omega) v
    have h2 := Has.rowSetCells r (i + 1) h1 (by omega)
    have hl := h.rowLens.1
    have e1 : (xs.set i v).take (i + 1) ++ (r ++ (xs.set i v).drop (i + 1 + r.length)) = xs.take i ++ (v :: r ++ xs.drop (i + (v :: r).length)) := by
      rw [List.drop_set_of_lt (by omega), List.take_succ_eq_append_getElem (by simp; omega)]
      rw [List.getElem_set_self, List.take_set_of_le (Nat.le_refl i), List.append_assoc]
      simp only [List.length_cons, List.cons_append, List.nil_append]
      rw [show i + 1 + r.length = i + (r.length + 1) by omega]
    rw [e1] at h2
    exact h2
theorem Has.rowSpareCells {g : Nat} : ∀ (vs : List Value) {w : World} (i : Nat), Has w (row e size (.slice (some ⟨g, 0, none⟩) n c) n xs * R) → n * size ≤ i →
    Has (w.setCells g i vs) (row e size (.slice (some ⟨g, 0, none⟩) n c) n xs * R)
  | [], _, _, h, _ => h
  | v :: r, _, i, h, hi => Has.rowSpareCells r (i + 1) (h.rowSpare hi v) (by omega)
end
end Go.Proofs.Ytndhgomikpokpaa
