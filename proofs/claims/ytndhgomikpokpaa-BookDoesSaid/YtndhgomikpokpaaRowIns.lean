/- Elements put into a row: 'copy' at elements of several cells, and what a row comes to. Plain lemmas. -/
import Derived.Test.YtndhgomikpokpaaRows3
import Derived.Laws.IdiomCopy
import Derived.Lib.AppendZerosOnto
namespace Go.Proofs.Ytndhgomikpokpaa
open Go.RowKit

/-- 'copy' of elements of several cells: all is read before anything is written. -/
theorem run_copy_many {P : Program} (w : World) (dT sT ty elem : TypeId) (b o dLen dCap : Nat) (a : Addr) (sLen sCap size k : Nat) (cs : List Value)
    (hu : P.underlying dT = some (.slice elem)) (hs : (P.info? elem).map (·.size) = some size) (hk : k = Nat.min sLen dLen) (hn : cs.length = k * size)
    (hsrc : ∀ j v, cs[j]? = some v → w.cell? (a.add j) = some v) (hc : ∀ j, j < cs.length → (w.cell? ⟨b, o + j, none⟩).isSome = true) (hf : ∀ j, j < cs.length → w.frozen? ⟨b, o + j, none⟩ = false) (h1 : ∀ v ∈ cs, v.oneCell' = true) :
    (Builtin.copy_ #[dT, sT] ty #[.slice (some ⟨b, o, none⟩) dLen dCap, .slice (some a) sLen sCap]).run P w = .ok (goInt k) (w.setCells b o cs) := by
  have hl := run_loadCells_list (P := P) w a cs hsrc
  have hst := run_storeCells_cells (P := P) b o cs 0 w (by simpa using hc) (by simpa using hf) h1
  subst hk
  cases hq : P.info? elem with
  | none => simp [hq] at hs
  | some i =>
    have hi : i.size = size := by simpa [hq] using hs
    rw [hn] at hl
    simp [Builtin.copy_, run_underlying hu, Builtin.lenOf, Builtin.firstCells, sizeOf, typeInfo, hq, hi, hl, hst]

section
variable {w : World} {R : HProp} {e size : Nat} {n c : Nat} {xs ys : List Value} {g : Nat}
/-- A row into its spare room. -/
theorem Has.rowMore (h : Has w (row e size (.slice (some ⟨g, 0, none⟩) n c) n xs * R)) (m : Nat) (hm : n + m ≤ c) :
    ∃ ys : List Value, ys.length = m * size ∧ Has w (row e size (.slice (some ⟨g, 0, none⟩) (n + m) c) (n + m) (xs ++ ys) * R) := by
  have hl := h.rowLens.1
  rcases h.rowCases with ⟨hv, _⟩ | ⟨g', cap, cur, hv, h1, h2, h3, h4, hb⟩
  · injection hv with a; cases a
  · injection hv with e1 e2 e3
    injection e1 with e1
    injection e1 with e1
    subst e1; subst e3
    have e4 : (n + m) * size = n * size + m * size := Nat.add_mul _ _ _
    have e5 : (n + m) * size ≤ c * size := Nat.mul_le_mul_right _ hm
    refine ⟨(cur.toList.drop (n * size)).take (m * size), by rw [List.length_take, List.length_drop, Array.length_toList]; omega, ?_⟩
    refine hb.rowOf ?_ hm h2 h3 ?_
    · rw [List.length_append, hl, List.length_take, List.length_drop, Array.length_toList]; omega
    · rw [← h4, e4, List.take_add]
/-- Many cells into its spare room and over its end: the tail moves back, and others come into the gap. -/
theorem Has.rowShift (h : Has w (row e size (.slice (some ⟨g, 0, none⟩) n c) n xs * R)) {i m : Nat} (hi : i ≤ n) (hm : n + m ≤ c) (zs : List Value) (hz : zs.length = m * size) :
    Has ((w.setCells g ((i + m) * size) (xs.drop (i * size))).setCells g (i * size) zs) (row e size (.slice (some ⟨g, 0, none⟩) (n + m) c) (n + m) (xs.take (i * size) ++ (zs ++ xs.drop (i * size))) * R) := by
  have hl := h.rowLens.1
  obtain ⟨ys, hy, h1⟩ := h.rowMore m hm
  have e1 : i * size ≤ n * size := Nat.mul_le_mul_right _ hi
  have e2 : (n + m) * size = n * size + m * size := Nat.add_mul _ _ _
  have e3 : (i + m) * size = i * size + m * size := Nat.add_mul _ _ _
  have hd : (xs.drop (i * size)).length = n * size - i * size := by rw [List.length_drop, hl]
  have h2 := Has.rowSetCells (xs.drop (i * size)) ((i + m) * size) h1 (by rw [hd]; omega)
  have h3 := Has.rowSetCells zs (i * size) h2 (by omega)
  refine h3.eq (congrArg (fun t => row e size (.slice (some ⟨g, 0, none⟩) (n + m) c) (n + m) t * R) ?_)
  have d1 : (xs ++ ys).drop ((i + m) * size + (xs.drop (i * size)).length) = [] := List.drop_eq_nil_of_le (by rw [List.length_append, hd, hl, hy]; omega)
  rw [d1, List.append_nil]
  have t1 : ((xs ++ ys).take ((i + m) * size) ++ xs.drop (i * size)).take (i * size) = xs.take (i * size) := by
    rw [List.take_append_of_le_length (by rw [List.length_take, List.length_append, hl, hy]; omega), List.take_take, Nat.min_eq_left (by omega), List.take_append_of_le_length (by omega)]
  have t2 : ((xs ++ ys).take ((i + m) * size) ++ xs.drop (i * size)).drop (i * size + zs.length) = xs.drop (i * size) := by
    have hlen : ((xs ++ ys).take ((i + m) * size)).length = i * size + zs.length := by rw [List.length_take, List.length_append, hl, hy, hz]; omega
    rw [← hlen, List.drop_left]
  rw [t1, t2]
/-- A new row that begins as another one does, has some more, and then its tail. -/
theorem Has.rowGap {k : Nat} (h : Has w (row e size (.slice (some ⟨g, 0, none⟩) n c) n (xs ++ ys) * R)) (hx : xs.length = k * size) (zs ts : List Value) (hzt : ys.length = zs.length + ts.length) :
    Has ((w.setCells g (k * size) zs).setCells g (k * size + zs.length) ts) (row e size (.slice (some ⟨g, 0, none⟩) n c) n (xs ++ (zs ++ ts)) * R) := by
  have hl := h.rowLens.1
  rw [List.length_append] at hl
  have h2 := Has.rowSetCells zs (k * size) h (by omega)
  have h3 := Has.rowSetCells ts (k * size + zs.length) h2 (by omega)
  refine h3.eq (congrArg (fun t => row e size (.slice (some ⟨g, 0, none⟩) n c) n t * R) ?_)
  have t1 : (xs ++ ys).take (k * size) = xs := by rw [List.take_append_of_le_length (by omega), List.take_of_length_le (by omega)]
  rw [t1]
  have t2 : (xs ++ (zs ++ (xs ++ ys).drop (k * size + zs.length))).take (k * size + zs.length) = xs ++ zs := by
    rw [← List.append_assoc, List.take_append_of_le_length (by rw [List.length_append]; omega), List.take_of_length_le (by rw [List.length_append]; omega)]
  have t3 : (xs ++ (zs ++ (xs ++ ys).drop (k * size + zs.length))).drop (k * size + zs.length + ts.length) = [] :=
    List.drop_eq_nil_of_le (by rw [List.length_append, List.length_append, List.length_drop, List.length_append]; omega)
  rw [t2, t3, List.append_nil, List.append_assoc]
/-- The same, with a draw in between. -/
theorem Has.rowGapD {k : Nat} (h : Has w (row e size (.slice (some ⟨g, 0, none⟩) n c) n (xs ++ ys) * R)) (hx : xs.length = k * size) (zs ts : List Value) (hzt : ys.length = zs.length + ts.length) :
    Has (((w.setCells g (k * size) zs).drew).setCells g (k * size + zs.length) ts) (row e size (.slice (some ⟨g, 0, none⟩) n c) n (xs ++ (zs ++ ts)) * R) := by
  have hl := h.rowLens.1
  rw [List.length_append] at hl
  have h2 := Has.rowSetCells zs (k * size) h (by omega)
  have h3 := Has.rowSetCells ts (k * size + zs.length) h2.drew (by omega)
  refine h3.eq (congrArg (fun t => row e size (.slice (some ⟨g, 0, none⟩) n c) n t * R) ?_)
  have t1 : (xs ++ ys).take (k * size) = xs := by rw [List.take_append_of_le_length (by omega), List.take_of_length_le (by omega)]
  rw [t1]
  have t2 : (xs ++ (zs ++ (xs ++ ys).drop (k * size + zs.length))).take (k * size + zs.length) = xs ++ zs := by
    rw [← List.append_assoc, List.take_append_of_le_length (by rw [List.length_append]; omega), List.take_of_length_le (by rw [List.length_append]; omega)]
  have t3 : (xs ++ (zs ++ (xs ++ ys).drop (k * size + zs.length))).drop (k * size + zs.length + ts.length) = [] :=
    List.drop_eq_nil_of_le (by rw [List.length_append, List.length_append, List.length_drop, List.length_append]; omega)
  rw [t2, t3, List.append_nil, List.append_assoc]
end
end Go.Proofs.Ytndhgomikpokpaa
