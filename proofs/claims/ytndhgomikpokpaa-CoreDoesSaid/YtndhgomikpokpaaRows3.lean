/- Rows whose elements are of several cells: told as lists of elements; 'clear', 'append' in a region that draws, elements cut out; slices that begin further behind. Plain lemmas. -/
import Derived.Test.YtndhgomikpokpaaRows2
import Derived.ArgAppend
import Derived.Deep.RegionLaw
namespace Go.Proofs.Ytndhgomikpokpaa
open Go.RowKit

section
variable {α : Type} (cells : α → List Value) (sz : Nat)
/-- Cells of many elements, one behind the other. -/
def flat (l : List α) : List Value := l.flatMap cells
variable {cells} {sz}
theorem flat_len (hs : ∀ x, (cells x).length = sz) : ∀ (l : List α), (flat cells l).length = l.length * sz
  | [] => by simp [flat]
  | x :: l => by
    show (cells x ++ flat cells l).length = _
    rw [List.length_append, flat_len hs l, hs, List.length_cons, Nat.succ_mul, Nat.add_comm]
theorem flat_append (a b : List α) : flat cells (a ++ b) = flat cells a ++ flat cells b := by simp [flat]
theorem flat_drop (hs : ∀ x, (cells x).length = sz) : ∀ (l : List α) (k : Nat), (flat cells l).drop (k * sz) = flat cells (l.drop k)
  | [], k => by simp [flat]
  | x :: l, 0 => by simp
  | x :: l, k + 1 => by
    show (cells x ++ flat cells l).drop ((k + 1) * sz) = _
    rw [Nat.succ_mul, Nat.add_comm, List.drop_append, hs, List.drop_eq_nil_of_le (by rw [hs]; omega), Nat.add_sub_cancel_left, flat_drop hs l k]
    rfl
theorem flat_take (hs : ∀ x, (cells x).length = sz) : ∀ (l : List α) (k : Nat), (flat cells l).take (k * sz) = flat cells (l.take k)
  | [], k => by simp [flat]
  | x :: l, 0 => by simp [flat]
  | x :: l, k + 1 => by
    show (cells x ++ flat cells l).take ((k + 1) * sz) = _
    rw [Nat.succ_mul, Nat.add_comm, List.take_append, hs, List.take_of_length_le (by rw [hs]; omega), Nat.add_sub_cancel_left, flat_take hs l k]
    rfl
theorem flat_get (hs : ∀ x, (cells x).length = sz) {l : List α} {k t : Nat} (hk : k < l.length) (ht : t < sz) : (flat cells l)[k * sz + t]? = (cells l[k])[t]? := by
  have h1 : (flat cells l)[k * sz + t]? = ((flat cells l).drop (k * sz))[t]? := by rw [List.getElem?_drop]
  rw [h1, flat_drop hs, List.drop_eq_getElem_cons hk]
  show (cells l[k] ++ flat cells (l.drop (k + 1)))[t]? = _
  rw [List.getElem?_append_left (by rw [hs]; omega)]
/-- An element in the place of another. -/
theorem flat_set (hs : ∀ x, (cells x).length = sz) {l : List α} {k : Nat} (hk : k < l.length) (x : α) :
    (flat cells l).take (k * sz) ++ (cells x ++ (flat cells l).drop (k * sz + sz)) = flat cells (l.set k x) := by
  rw [flat_take hs, show k * sz + sz = (k + 1) * sz by rw [Nat.succ_mul], flat_drop hs, List.set_eq_take_append_cons_drop, if_pos hk, flat_append]
  rfl
end

/-- 'clear(s)', s a slice of n > 0 elements of several cells each. -/
theorem run_clear_cells {P : Program} (w : World) (t e ty : TypeId) (z : Value) (size : Nat) (ht : P.underlying t = some (.slice e)) (hv : ∀ w, (zeroValue e).run P w = .ok z w) (hz : z.cells.size = size) (h1 : ∀ v ∈ z.cells.toList, v.oneCell' = true) (b o n c : Nat) (hn : 0 < n) (hs : 0 < size)
    (hc : ∀ j, j < n * size → (w.cell? ⟨b, o + j, none⟩).isSome = true) (hf : ∀ j, j < n * size → w.frozen? ⟨b, o + j, none⟩ = false) :
    (Builtin.clear_ #[t] ty #[.slice (some ⟨b, o, none⟩) n c]).run P w = .ok (.tuple #[]) (w.setCells b o (Builtin.zeroCells z.cells n).toList) := by
  have hl : (Builtin.zeroCells z.cells n).toList.length = n * size := by rw [Array.length_toList, size_zeroCells, hz]
  have hst := run_storeCells_cells (P := P) b o (Builtin.zeroCells z.cells n).toList 0 w (by rw [hl]; simpa using hc) (by rw [hl]; simpa using hf) (by
    intro v hv'
    obtain ⟨i, hi, rfl⟩ := List.getElem_of_mem hv'
    have hi' : i < n * z.cells.size := by simpa [hz] using (hl ▸ hi : i < n * size)
    have hm : i % z.cells.size < z.cells.size := Nat.mod_lt _ (by rw [hz]; exact hs)
    refine h1 _ ?_
    simp only [Builtin.zeroCells, Array.toList_map, Array.toList_range, List.getElem_map, List.getElem_range]
    rw [getElem!_pos z.cells (i % z.cells.size) hm]
    exact Array.getElem_mem_toList hm)
  simp only [Nat.add_zero] at hst
  obtain ⟨m, rfl⟩ : ∃ m, n = m + 1 := ⟨n - 1, by omega⟩
  simp [Builtin.clear_, run_underlying ht, hv, hst]

section
variable {w w' : World} {R : HProp} {e size : Nat} {A : Option Addr} {n c : Nat} {xs : List Value}
/-- What follows an element that is cut out comes to its place. -/
theorem Has.rowDelete {g i j : Nat} (h : Has w (row e size (.slice (some ⟨g, 0, none⟩) n c) n xs * R)) (hij : i ≤ j) (hj : j ≤ n) (zs : List Value) :
    Has ((w.setCells g (i * size) (xs.drop (j * size))).setCells g ((i + (n - j)) * size) zs)
      (row e size (.slice (some ⟨g, 0, none⟩) (i + (n - j)) c) (i + (n - j)) (xs.take (i * size) ++ xs.drop (j * size)) * R) := by
  have hl := h.rowLens.1
  have e1 : j * size ≤ n * size := Nat.mul_le_mul_right _ hj
  have e2 : i * size ≤ j * size := Nat.mul_le_mul_right _ hij
  have e3 : (i + (n - j)) * size = i * size + (n * size - j * size) := by rw [Nat.add_mul, Nat.sub_mul]
  have h1 := Has.rowSetCells (xs.drop (j * size)) (i * size) h (by rw [List.length_drop, hl]; omega)
  have h2 := h1.rowCut (k := i + (n - j)) (by omega)
  have h3 := Has.rowSpareCells zs ((i + (n - j)) * size) h2 (Nat.le_refl _)
  have e4 : (xs.take (i * size) ++ (xs.drop (j * size) ++ xs.drop (i * size + (xs.drop (j * size)).length))).take ((i + (n - j)) * size) = xs.take (i * size) ++ xs.drop (j * size) := by
    have e5 : (xs.take (i * size) ++ xs.drop (j * size)).length = (i + (n - j)) * size := by rw [List.length_append, List.length_take, List.length_drop, hl]; omega
    rw [← List.append_assoc, List.take_append_of_le_length (by omega), List.take_of_length_le (by omega)]
  rw [e4] at h3
  exact h3
end

/-! ### append onto a row of one's own, as a step of a region that draws -/
theorem step_append_has {P : Program} {ops : Array Oper} {o : Oper} {a : Act} {w : World} {R : HProp} {K : Act → World → Prop} {Q : Exit → Act → World → Prop} {E : Prop}
    (hg : o.guard = none) (s x : Operand) (t : TypeId) (hop : o.op = Op.call { callee := Callee.builtin Builtin.append, args := #[s, x], argTypes := #[t, t] })
    {e : TypeId} {z : Value} {size bytes : Nat} (hT : P.underlying t = some (.slice e)) (hE : Elem P e z size bytes)
    (v : Value) (n : Nat) (xs : List Value) (hs : a.eval s = v) (h : Has w (row e size v n xs * R))
    (ad : Addr) (m c : Nat) (news : List Value) (hx : a.eval x = .slice (some ad) m c) (hl : news.length = m * size) (hnews : ∀ j u, news[j]? = some u → w.cell? (ad.add j) = some u) (h1 : ∀ u ∈ news, u.oneCell' = true)
    (h63 : n + m ≤ maxLen) (hbytes : (n + m) * bytes ≤ 140737488355328)
    (hK : ∀ A c w', Has w' (row e size (.slice A (n + m) c) (n + m) (xs ++ news) * R) → Ext w w' → K (a.put o.dst (.slice A (n + m) c)) w') :
    if Region.wanted o (yielded ops a.tmps) = true then Oper.wp P o a w K Q else E := by
  have hw : Region.wanted o (yielded ops a.tmps) = true := by simp [Region.wanted, hg]
  rw [if_pos hw]
  obtain ⟨v', w', hrun, h2, h3⟩ := run_append_has (ty := o.type) hT hE v n xs h ad m c news hl hnews h1 h63 hbytes
  unfold Oper.wp
  simp [execOp, hop, resolve, invoke, builtin, hs, hx, hrun, Result.andThen]
  have hf : ∃ A c, v' = .slice A (n + m) c := by
    rcases h2.rowCases with ⟨hv, hn, _, _⟩ | ⟨g, cap, cur, hv, _⟩
    · exact ⟨none, 0, by rw [hv, hn]⟩
    · exact ⟨_, _, hv⟩
  obtain ⟨A, c', rfl⟩ := hf
  exact hK A c' w' h2 h3
end Go.Proofs.Ytndhgomikpokpaa
