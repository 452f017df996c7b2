/- Rows of one's own, whose elements are of several cells: read, written, cut. Plain lemmas. -/
import Derived.Test.YtegkimecdonfgaaSep
import Derived.Laws.IdiomCopy
import Derived.ArgAppend
import Derived.Deep.RegionLaw
import Derived.Test.YtegkimecdonfgaaAgree
import Derived.Deep.RegionHeld3
import Derived.Deep.LoopGhost
import Derived.Deep.DeepCutAuto
import Derived.Deep.CutBlock
import Derived.Test.YtegkimecdonfgaaWalkM2
import Derived.Defers
import Derived.Recover
import Derived.WalkLawsBesides
import Derived.Laws.Pointers
namespace Go.Proofs.Ytegkimecdonfgaa
open Go.RowKit
section
variable {w : World} {R : HProp} {e size : Nat} {A : Option Addr} {n c : Nat} {xs : List Value}
/-- A row of one's own that has an element stands at the head of a block. -/
theorem Has.rowAt (h : Has w (row e size (.slice A n c) n xs * R)) (hn : 0 < n) :
    ∃ g cur, A = some ⟨g, 0, none⟩ ∧ n ≤ c ∧ c ≤ maxLen ∧ cur.size = c * size ∧ cur.toList.take (n * size) = xs ∧ Has w (blk g cur e * R) := by
  rcases h.rowCases with ⟨hv, rfl, _, _⟩ | ⟨g, cap, cur, hv, h1, h2, h3, h4, hb⟩
  · omega
  · injection hv with e1 e2 e3
    subst e1; subst e3
    exact ⟨g, cur, rfl, h1, h2, h3, h4, hb⟩
theorem Has.rowLens (h : Has w (row e size (.slice A n c) n xs * R)) : xs.length = n * size ∧ n ≤ 9223372036854775807 := by
  have := h.ownsRow.1
  refine ⟨this, ?_⟩
  rcases h.rowCases with ⟨hv, rfl, _, _⟩ | ⟨g, cap, cur, hv, h1, h2, h3, h4, hb⟩
  · omega
  · unfold maxLen at h2; omega
/-- One cell of it. -/
theorem Has.rowGet (h : Has w (row e size (.slice A n c) n xs * R)) {i : Nat} {u : Value} (hu : xs[i]? = some u) :
    ∃ g, A = some ⟨g, 0, none⟩ ∧ g < w.heap.size ∧ w.cell? ⟨g, i, none⟩ = some u ∧ w.frozen? ⟨g, i, none⟩ = false := by
  have hl := h.rowLens.1
  have hi : i < xs.length := (List.getElem?_eq_some_iff.1 hu).1
  have hn : 0 < n := by
    rcases Nat.eq_zero_or_pos n with h0 | h0
    · subst h0; omega
    · exact h0
  obtain ⟨g, cur, rfl, h1, h2, h3, h4, hb⟩ := h.rowAt hn
  refine ⟨g, rfl, hb.lt, ?_, hb.free i⟩
  rw [hb.cell, ← hu, ← h4, List.getElem?_take, if_pos (by omega)]
  simp
/-- A cell of it is written. -/
theorem Has.rowSet {g : Nat} (h : Has w (row e size (.slice (some ⟨g, 0, none⟩) n c) n xs * R)) {i : Nat} (hi : i < n * size) (u : Value) :
    Has (w.setCell ⟨g, i, none⟩ u) (row e size (.slice (some ⟨g, 0, none⟩) n c) n (xs.set i u) * R) := by
  have hl := h.rowLens.1
  have hn : 0 < n := by
    rcases Nat.eq_zero_or_pos n with h0 | h0
    · subst h0; omega
    · exact h0
  obtain ⟨g', cur, hg, h1, h2, h3, h4, hb⟩ := h.rowAt hn
  injection hg with hg
  injection hg with hg
  subst hg
  refine (hb.set i u).rowOf ?_ h1 h2 (by simp [h3]) ?_
  · simp [hl]
  · rw [← h4]
    simp [List.take_set]
/-- Its first k elements. -/
theorem Has.rowCut {g k : Nat} (h : Has w (row e size (.slice (some ⟨g, 0, none⟩) n c) n xs * R)) (hk : k ≤ n) :
    Has w (row e size (.slice (some ⟨g, 0, none⟩) k c) k (xs.take (k * size)) * R) := by
  have hl := h.rowLens.1
  rcases h.rowCases with ⟨hv, _, _, _⟩ | ⟨g', cap, cur, hv, h1, h2, h3, h4, hb⟩
  · injection hv with a; cases a
  · injection hv with e1 e2 e3
    injection e1 with e1
    injection e1 with e1
    subst e1; subst e3
    have hks : k * size ≤ n * size := Nat.mul_le_mul_right _ hk
    refine hb.rowOf ?_ (by omega) h2 h3 ?_
    · rw [List.length_take, hl]; omega
    · rw [← h4, List.take_take, Nat.min_eq_left hks]
/-- A cell of its spare room is written. -/
theorem Has.rowSpare {g : Nat} (h : Has w (row e size (.slice (some ⟨g, 0, none⟩) n c) n xs * R)) {i : Nat} (hi : n * size ≤ i) (u : Value) :
    Has (w.setCell ⟨g, i, none⟩ u) (row e size (.slice (some ⟨g, 0, none⟩) n c) n xs * R) := by
  have hl := h.rowLens.1
  rcases h.rowCases with ⟨hv, _, _, _⟩ | ⟨g', cap, cur, hv, h1, h2, h3, h4, hb⟩
  · injection hv with a; cases a
  · injection hv with e1 e2 e3
    injection e1 with e1
    injection e1 with e1
    subst e1; subst e3
    refine (hb.set i u).rowOf hl h1 h2 (by simp [h3]) ?_
    rw [← h4, Array.toList_setIfInBounds, List.take_set_of_le hi]
/-- Many cells of it are written, one behind the other. -/
theorem Has.rowSetCells {g : Nat} : ∀ (vs : List Value) {w : World} {xs : List Value} (i : Nat), Has w (row e size (.slice (some ⟨g, 0, none⟩) n c) n xs * R) → i + vs.length ≤ n * size →
    Has (w.setCells g i vs) (row e size (.slice (some ⟨g, 0, none⟩) n c) n (xs.take i ++ (vs ++ xs.drop (i + vs.length))) * R)
  | [], w, xs, i, h, _ => by
    have e1 : xs.take i ++ ([] ++ xs.drop (i + ([] : List Value).length)) = xs := by simp
    rw [e1]
    exact h
  | v :: r, w, xs, i, h, hi => by
    simp only [List.length_cons] at hi
    have h1 := h.rowSet (i := i) (by omega) v
    have h2 := Has.rowSetCells r (i + 1) h1 (by omega)
    have hl := h.rowLens.1
    have e1 : (xs.set i v).take (i + 1) ++ (r ++ (xs.set i v).drop (i + 1 + r.length)) = xs.take i ++ (v :: r ++ xs.drop (i + (v :: r).length)) := by
      rw [List.drop_set_of_lt (by omega), List.take_succ_eq_append_getElem (by simp; omega)]
      rw [List.getElem_set_self, List.take_set_of_le (Nat.le_refl i), List.append_assoc]
      simp only [List.length_cons, List.cons_append, List.nil_append]
      rw [show i + 1 + r.length = i + (r.length + 1) by omega]
    rw [e1] at h2
    exact h2
theorem Has.rowSpareCells {g : Nat} : ∀ (vs : List Value) {w : World} (i : Nat), Has w (row e size (.slice (some ⟨g, 0, none⟩) n c) n xs * R) → n * size ≤ i →
    Has (w.setCells g i vs) (row e size (.slice (some ⟨g, 0, none⟩) n c) n xs * R)
  | [], _, _, h, _ => h
  | v :: r, _, i, h, hi => Has.rowSpareCells r (i + 1) (h.rowSpare hi v) (by omega)
end
end Go.Proofs.Ytegkimecdonfgaa
namespace Go.Proofs.Ytegkimecdonfgaa
open Go.RowKit
section
variable {α : Type} (cells : α → List Value) (sz : Nat)
/-- Cells of many elements, one behind the other. -/
def flat (l : List α) : List Value := l.flatMap cells
variable {cells} {sz}
theorem flat_len (hs : ∀ x, (cells x).length = sz) : ∀ (l : List α), (flat cells l).length = l.length * sz
  | [] => by simp [flat]
  | x :: l => by
    show (cells x ++ flat cells l).length = _
    rw [List.length_append, flat_len hs l, hs, List.length_cons, Nat.succ_mul, Nat.add_comm]
theorem flat_append (a b : List α) : flat cells (a ++ b) = flat cells a ++ flat cells b := by simp [flat]
theorem flat_drop (hs : ∀ x, (cells x).length = sz) : ∀ (l : List α) (k : Nat), (flat cells l).drop (k * sz) = flat cells (l.drop k)
  | [], k => by simp [flat]
  | x :: l, 0 => by simp
  | x :: l, k + 1 => by
    show (cells x ++ flat cells l).drop ((k + 1) * sz) = _
    rw [Nat.succ_mul, Nat.add_comm, List.drop_append, hs, List.drop_eq_nil_of_le (by rw [hs]; omega), Nat.add_sub_cancel_left, flat_drop hs l k]
    rfl
theorem flat_take (hs : ∀ x, (cells x).length = sz) : ∀ (l : List α) (k : Nat), (flat cells l).take (k * sz) = flat cells (l.take k)
  | [], k => by simp [flat]
  | x :: l, 0 => by simp [flat]
  | x :: l, k + 1 => by
    show (cells x ++ flat cells l).take ((k + 1) * sz) = _
    rw [Nat.succ_mul, Nat.add_comm, List.take_append, hs, List.take_of_length_le (by rw [hs]; omega), Nat.add_sub_cancel_left, flat_take hs l k]
    rfl
theorem flat_get (hs : ∀ x, (cells x).length = sz) {l : List α} {k t : Nat} (hk : k < l.length) (ht : t < sz) : (flat cells l)[k * sz + t]? = (cells l[k])[t]? := by
  have h1 : (flat cells l)[k * sz + t]? = ((flat cells l).drop (k * sz))[t]? := by rw [List.getElem?_drop]
  rw [h1, flat_drop hs, List.drop_eq_getElem_cons hk]
  show (cells l[k] ++ flat cells (l.drop (k + 1)))[t]? = _
  rw [List.getElem?_append_left (by rw [hs]; omega)]
end
/-- 'clear(s)', s a slice of n > 0 elements of several cells each. -/
theorem run_clear_cells {P : Program} (w : World) (t e ty : TypeId) (z : Value) (size : Nat) (ht : P.underlying t = some (.slice e)) (hv : ∀ w, (zeroValue e).run P w = .ok z w) (hz : z.cells.size = size) (h1 : ∀ v ∈ z.cells.toList, v.oneCell' = true) (b o n c : Nat) (hn : 0 < n) (hs : 0 < size)
    (hc : ∀ j, j < n * size → (w.cell? ⟨b, o + j, none⟩).isSome = true) (hf : ∀ j, j < n * size → w.frozen? ⟨b, o + j, none⟩ = false) :
    (Builtin.clear_ #[t] ty #[.slice (some ⟨b, o, none⟩) n c]).run P w = .ok (.tuple #[]) (w.setCells b o (Builtin.zeroCells z.cells n).toList) := by
  have hl : (Builtin.zeroCells z.cells n).toList.length = n * size := by rw [Array.length_toList, size_zeroCells, hz]
  have hst := run_storeCells_cells (P := P) b o (Builtin.zeroCells z.cells n).toList 0 w (by rw [hl]; simpa using hc) (by rw [hl]; simpa using hf) (by
    intro v hv'
    obtain ⟨i, hi, rfl⟩ := List.getElem_of_mem hv'
    have hi' : i < n * z.cells.size := by simpa [hz] using (hl ▸ hi : i < n * size)
    have hm : i % z.cells.size < z.cells.size := Nat.mod_lt _ (by rw [hz]; exact hs)
    refine h1 _ ?_
    simp only [Builtin.zeroCells, Array.toList_map, Array.toList_range, List.getElem_map, List.getElem_range]
    rw [getElem!_pos z.cells (i % z.cells.size) hm]
    exact Array.getElem_mem_toList hm)
  simp only [Nat.add_zero] at hst
  obtain ⟨m, rfl⟩ : ∃ m, n = m + 1 := ⟨n - 1, by omega⟩
  simp [Builtin.clear_, run_underlying ht, hv, hst]
section
variable {w w' : World} {R : HProp} {e size : Nat} {A : Option Addr} {n c : Nat} {xs : List Value}
/-- What follows an element that is cut out comes to its place. -/
theorem Has.rowDelete {g i j : Nat} (h : Has w (row e size (.slice (some ⟨g, 0, none⟩) n c) n xs * R)) (hij : i ≤ j) (hj : j ≤ n) (zs : List Value) :
    Has ((w.setCells g (i * size) (xs.drop (j * size))).setCells g ((i + (n - j)) * size) zs)
      (row e size (.slice (some ⟨g, 0, none⟩) (i + (n - j)) c) (i + (n - j)) (xs.take (i * size) ++ xs.drop (j * size)) * R) := by
  have hl := h.rowLens.1
  have e1 : j * size ≤ n * size := Nat.mul_le_mul_right _ hj
  have e2 : i * size ≤ j * size := Nat.mul_le_mul_right _ hij
  have e3 : (i + (n - j)) * size = i * size + (n * size - j * size) := by rw [Nat.add_mul, Nat.sub_mul]
  have h1 := Has.rowSetCells (xs.drop (j * size)) (i * size) h (by rw [List.length_drop, hl]; omega)
  have h2 := h1.rowCut (k := i + (n - j)) (by omega)
  have h3 := Has.rowSpareCells zs ((i + (n - j)) * size) h2 (Nat.le_refl _)
  have e4 : (xs.take (i * size) ++ (xs.drop (j * size) ++ xs.drop (i * size + (xs.drop (j * size)).length))).take ((i + (n - j)) * size) = xs.take (i * size) ++ xs.drop (j * size) := by
    have e5 : (xs.take (i * size) ++ xs.drop (j * size)).length = (i + (n - j)) * size := by rw [List.length_append, List.length_take, List.length_drop, hl]; omega
    rw [← List.append_assoc, List.take_append_of_le_length (by omega), List.take_of_length_le (by omega)]
  rw [e4] at h3
  exact h3
end
/-! ### append onto a row of one's own, as a step of a region that draws -/
theorem step_append_has {P : Program} {ops : Array Oper} {o : Oper} {a : Act} {w : World} {R : HProp} {K : Act → World → Prop} {Q : Exit → Act → World → Prop} {E : Prop}
    (hg : o.guard = none) (s x : Operand) (t : TypeId) (hop : o.op = Op.call { callee := Callee.builtin Builtin.append, args := #[s, x], argTypes := #[t, t] })
    {e : TypeId} {z : Value} {size bytes : Nat} (hT : P.underlying t = some (.slice e)) (hE : Elem P e z size bytes)
    (v : Value) (n : Nat) (xs : List Value) (hs : a.eval s = v) (h : Has w (row e size v n xs * R))
    (ad : Addr) (m c : Nat) (news : List Value) (hx : a.eval x = .slice (some ad) m c) (hl : news.length = m * size) (hnews : ∀ j u, news[j]? = some u → w.cell? (ad.add j) = some u) (h1 : ∀ u ∈ news, u.oneCell' = true)
    (h63 : n + m ≤ maxLen) (hbytes : (n + m) * bytes ≤ 140737488355328)
    (hK : ∀ A c w', Has w' (row e size (.slice A (n + m) c) (n + m) (xs ++ news) * R) → Ext w w' → K (a.put o.dst (.slice A (n + m) c)) w') :
    if Region.wanted o (yielded ops a.tmps) = true then Oper.wp P o a w K Q else E := by
  have hw : Region.wanted o (yielded ops a.tmps) = true := by simp [Region.wanted, hg]
  rw [if_pos hw]
  obtain ⟨v', w', hrun, h2, h3⟩ := run_append_has (ty := o.type) hT hE v n xs h ad m c news hl hnews h1 h63 hbytes
  unfold Oper.wp
  simp [execOp, hop, resolve, invoke, builtin, hs, hx, hrun, Result.andThen]
  have hf : ∃ A c, v' = .slice A (n + m) c := by
    rcases h2.rowCases with ⟨hv, hn, _, _⟩ | ⟨g, cap, cur, hv, _⟩
    · exact ⟨none, 0, by rw [hv, hn]⟩
    · exact ⟨_, _, hv⟩
  obtain ⟨A, c', rfl⟩ := hf
  exact hK A c' w' h2 h3
end Go.Proofs.Ytegkimecdonfgaa
namespace Go.Proofs.Ytegkimecdonfgaa
open Go.RowKit
structure Ln where
  m : Mp
  dirty : Bool
  deriving DecidableEq
def Ln.cells (x : Ln) : List Value := [(Value.int .i64) x.m.page, (Value.int .i64) x.m.size, (Value.int .i64) x.m.frame, (Value.int .i64) x.m.rights, Value.bool x.dirty]
namespace Tl
def drop (l : List Ln) (m : Mp) : List Ln := l.filter fun x => !meet x.m m
def room (l : List Ln) : List Ln := if l.length = 6 then l.tail else l
def put (l : List Ln) (x : Ln) : List Ln := if check x.m = 0 then room (drop l x.m) ++ [x] else l
def find (l : List Ln) (p : Int) : Option Ln := l.find? fun x => over x.m p
/-- What a core keeps: mappings that may be, no two of which meet, and not too many. -/
structure Ok (l : List Ln) : Prop where
  len : l.length ≤ 6
  chk : ∀ x ∈ l, check x.m = 0
  apart : l.Pairwise fun a b => meet a.m b.m = false
theorem Ok.nil : Ok [] := ⟨by simp, fun x h => (by cases h), List.Pairwise.nil⟩
theorem Ok.sub {l k : List Ln} (h : Ok l) (s : k.Sublist l) : Ok k :=
  ⟨Nat.le_trans s.length_le h.len, fun x hx => h.chk x (s.subset hx), h.apart.sublist s⟩
theorem Ok.drop {l : List Ln} (h : Ok l) (m : Mp) : Ok (drop l m) := h.sub List.filter_sublist
theorem drop_apart (l : List Ln) (m : Mp) : ∀ x ∈ drop l m, meet x.m m = false := fun x hx => by
  have := (List.mem_filter.1 hx).2
  simpa using this
theorem room_sub (l : List Ln) : (room l).Sublist l := by
  unfold room
  split
  · exact List.tail_sublist l
  · exact List.Sublist.refl l
theorem room_len {l : List Ln} (h : l.length ≤ 6) : (room l).length ≤ 5 := by
  unfold room
  split
  · simp; omega
  · omega
theorem Ok.put {l : List Ln} (h : Ok l) (x : Ln) : Ok (put l x) := by
  unfold Tl.put
  split
  · rename_i hc
    have hd := h.drop x.m
    have hr := hd.sub (room_sub _)
    refine ⟨?_, fun y hy => ?_, ?_⟩
    · have := room_len hd.len
      simp
      omega
    · rcases List.mem_append.1 hy with hy | hy
      · exact hr.chk y hy
      · rw [List.mem_singleton.1 hy]
        exact hc
    · rw [List.pairwise_append]
      refine ⟨hr.apart, List.pairwise_singleton _ _, fun a ha b hb => ?_⟩
      rw [List.mem_singleton.1 hb]
      exact drop_apart l x.m a ((room_sub _).subset ha)
  · exact h
/-- A line that was put, with what was put behind it. -/
def At (l : List Ln) (x : Ln) (n : Nat) : Prop := ∃ a b, l = a ++ x :: b ∧ b.length ≤ n
theorem At.put (l : List Ln) {x : Ln} (h : check x.m = 0) : At (put l x) x 0 := ⟨_, [], by unfold Tl.put; rw [if_pos h], Nat.le_refl _⟩
theorem At.drop {l : List Ln} {x : Ln} {n : Nat} (h : At l x n) {m : Mp} (hm : meet x.m m = false) : At (drop l m) x n := by
  obtain ⟨a, b, rfl, hb⟩ := h
  refine ⟨Tl.drop a m, Tl.drop b m, ?_, Nat.le_trans (List.length_filter_le _ _) hb⟩
  unfold Tl.drop
  rw [List.filter_append, List.filter_cons]
  simp [hm]
theorem At.room {l : List Ln} {x : Ln} {n : Nat} (h : At l x n) (hn : n < 5) : At (room l) x n := by
  obtain ⟨a, b, rfl, hb⟩ := h
  unfold Tl.room
  split
  · rename_i hl
    cases a with
    | nil => simp at hl; omega
    | cons y a => exact ⟨a, b, rfl, hb⟩
  · exact ⟨a, b, rfl, hb⟩
/-- Of lines that are apart, the one that has a page is found. -/
theorem At.find {l : List Ln} {x : Ln} {n : Nat} {p : Int} (h : At l x n) (hp : ∀ y ∈ l, y ≠ x → over y.m p = false) (ho : over x.m p = true) : find l p = some x := by
  unfold Tl.find
  obtain ⟨a, b, rfl, _⟩ := h
  rw [List.find?_append]
  cases hf : a.find? fun x => over x.m p with
  | none => simp [ho]
  | some y =>
    have h1 := List.find?_some hf
    have h2 := List.mem_of_find?_eq_some hf
    by_cases e : y = x
    · rw [e]; rfl
    · have := hp y (List.mem_append_left _ h2) e
      rw [this] at h1
      cases h1
end Tl
end Go.Proofs.Ytegkimecdonfgaa
namespace Go.Proofs.Ytegkimecdonfgaa
open Go.RowKit
/-- A step of the laws on what is kept. -/
structure Lst where
  op : Int
  k : Int
  m : Mp
def Lst.cells (x : Lst) : List Value := [(Value.int .i64) x.op, (Value.int .i64) x.k, (Value.int .i64) x.m.page, (Value.int .i64) x.m.size, (Value.int .i64) x.m.frame, (Value.int .i64) x.m.rights]
def Lst.ok (x : Lst) : Prop := i64 x.op ∧ i64 x.k ∧ x.m.ok
/-- A word. -/
def cellsU (n : Int) : List Value := [(Value.int .u64) n]
/-- A step of a script. -/
structure Stp where
  kind : Int
  core : Int
  m : Mp
  a : Ac
def Stp.cells (x : Stp) : List Value := [(Value.int .i64) x.kind, (Value.int .i64) x.core, (Value.int .i64) x.m.page, (Value.int .i64) x.m.size, (Value.int .i64) x.m.frame, (Value.int .i64) x.m.rights, (Value.int .i64) x.a.page, (Value.int .i64) x.a.kind, Value.bool x.a.user]
def Stp.ok (x : Stp) : Prop := i64 x.kind ∧ i64 x.core ∧ x.m.ok ∧ x.a.ok
theorem cells_stp {cs : List Value} (h : CellsOk [some .i64, some .i64, some .i64, some .i64, some .i64, some .i64, some .i64, some .i64, none] cs) : ∃ x : Stp, cs = x.cells ∧ x.ok := by
  obtain ⟨a, c1, rfl, wa, g1⟩ := h.int
  obtain ⟨b, c2, rfl, wb, g2⟩ := g1.int
  obtain ⟨c, c3, rfl, wc, g3⟩ := g2.int
  obtain ⟨d, c4, rfl, wd, g4⟩ := g3.int
  obtain ⟨e, c5, rfl, we, g5⟩ := g4.int
  obtain ⟨f, c6, rfl, wf, g6⟩ := g5.int
  obtain ⟨p, c7, rfl, wp, g7⟩ := g6.int
  obtain ⟨k, c8, rfl, wk, g8⟩ := g7.int
  obtain ⟨u, c9, rfl, g9⟩ := g8.bool
  obtain rfl := g9.nil
  exact ⟨⟨a, b, ⟨c, d, e, f⟩, ⟨p, k, u⟩⟩, rfl, wf_i64' wa, wf_i64' wb, ⟨wf_i64' wc, wf_i64' wd, wf_i64' we, wf_i64' wf⟩, wf_i64' wp, wf_i64' wk⟩
/-- A step of the laws on walks. -/
structure Wst where
  op : Int
  k : Int
  i : Int
  w : Int
  a : Ac
def Wst.cells (x : Wst) : List Value := [(Value.int .i64) x.op, (Value.int .i64) x.k, (Value.int .i64) x.i, (Value.int .u64) x.w, (Value.int .i64) x.a.page, (Value.int .i64) x.a.kind, Value.bool x.a.user]
def Wst.ok (x : Wst) : Prop := i64 x.op ∧ i64 x.k ∧ i64 x.i ∧ u64 x.w ∧ x.a.ok
end Go.Proofs.Ytegkimecdonfgaa
namespace Go.Proofs.Ytegkimecdonfgaa
open Go.RowKit
set_option maxRecDepth 100000
def takeN (s : Ms) : Nat → Ms | 0 => s | k + 1 => (takeN s k).takeS
/-- Words from the i-th place on. -/
def putWords (s : Ms) : Nat → List Int → Ms | _, [] => s | i, w :: ws => putWords (storeS s ((i : Int) / 8) ((i : Int) % 8) w) (i + 1) ws
def memS (n taken : Int) (words : List Int) : Ms := putWords (takeN (Ms.new n.toNat) (min taken.toNat n.toNat)) 0 words
theorem takeN_ok {s : Ms} (h : s.Ok) : ∀ k, (takeN s k).Ok | 0 => h | k + 1 => (takeN_ok h k).takeS
theorem takeN_n (s : Ms) : ∀ k, (takeN s k).n = s.n | 0 => rfl | k + 1 => by unfold takeN; rw [Ms.takeS_n, takeN_n s k]
theorem putWords_ok : ∀ (ws : List Int) {s : Ms} (i : Nat), s.Ok → (∀ x ∈ ws, u64 x) → (putWords s i ws).Ok
  | [], _, _, h, _ => h
  | w :: ws, _, i, h, hw => putWords_ok ws (i + 1) (h.storeS _ _ (hw w (by simp))) fun x hx => hw x (by simp [hx])
theorem putWords_n : ∀ (ws : List Int) (s : Ms) (i : Nat), (putWords s i ws).n = s.n
  | [], _, _ => rfl
  | w :: ws, s, i => by unfold putWords; rw [putWords_n ws, storeS_n]
theorem putWords_take (s : Ms) (ws : List Int) {i : Nat} (hi : i < ws.length) : putWords s 0 (ws.take (i + 1)) = storeS (putWords s 0 (ws.take i)) ((i : Int) / 8) ((i : Int) % 8) ws[i] := by
  have key : ∀ (vs : List Int) (s : Ms) (j : Nat) (x : Int), putWords s j (vs ++ [x]) = storeS (putWords s j vs) (((j + vs.length : Nat) : Int) / 8) (((j + vs.length : Nat) : Int) % 8) x := by
    intro vs
    induction vs with
    | nil => intro s j x; rfl
    | cons v vs ih =>
      intro s j x
      show putWords (storeS s _ _ v) (j + 1) (vs ++ [x]) = _
      rw [ih, show j + 1 + vs.length = j + (v :: vs).length by simp; omega]
      rfl
  rw [List.take_succ_eq_append_getElem hi, key]
  rw [List.length_take, Nat.min_eq_left (by omega), Nat.zero_add]
theorem memS_ok {n taken : Int} {ws : List Int} (_ : 0 ≤ n) (h1 : n ≤ 128) (hw : ∀ x ∈ ws, u64 x) : (memS n taken ws).Ok := putWords_ok ws 0 (takeN_ok (Ms.Ok.new (by omega)) _) hw
theorem memS_n {n taken : Int} {ws : List Int} : (memS n taken ws).n = n.toNat := by unfold memS; rw [putWords_n, takeN_n]; rfl
theorem Has.onto' {w w' : World} {P Q : HProp} (h : Has w P) (h' : Has w' (Q * old w w.heap.size)) : Has w' (Q * P) := by
  obtain ⟨x, s, px⟩ := h
  obtain ⟨_, s', h1, h2, d, rfl, q, rfl⟩ := h'
  have sub : ∀ b o, x b = some o → (fun b => if b < w.heap.size then w.heap[b]? else none) b = some o := fun b o e => by
    have h0 : w.heap[b]? = some o := s b o e
    have hlt : b < w.heap.size := (Array.getElem?_eq_some_iff.1 h0).1
    show (if b < w.heap.size then w.heap[b]? else none) = some o
    rw [if_pos hlt]
    exact h0
  refine ⟨Hpm.union h1 x, ?_, h1, x, ?_, rfl, q, px⟩
  · refine Hpm.sub_union (Hpm.sub_union_left s') fun b o e => ?_
    exact Hpm.sub_union_right d s' b o (sub b o e)
  · intro b
    rcases d b with e | e
    · exact .inl e
    · right
      cases hx : x b with
      | none => rfl
      | some o => rw [sub b o hx] at e; cases e
/-- Two memories alike, of one's own, behind all that was there. -/
def TwoMem (s : Ms) (w : World) (e : Ending) (w' : World) : Prop := ∃ p q, e = .returned (.tuple #[.pointer (some ⟨p, 0, none⟩), .pointer (some ⟨q, 0, none⟩)]) ∧ Has w' (framesAt p s * (memAt q s * old w w.heap.size)) ∧ Ext w w'
set_option maxHeartbeats 2000000 in
theorem memory_any (N T : Int) (A : Option Addr) (n c : Nat) (l : List Int) (w : World) (h0 : 0 ≤ N) (h1 : N ≤ 128) (h : Arr w A n 1 (l.map cellsU)) (hok : ∀ x ∈ l, u64 x) :
    Calls Try.prog 12 #[(Value.int .i64) N, (Value.int .i64) T, .slice A n c] w (TwoMem (memS N T l) w) := by
  have hm := h.2.1
  have hn : l.length = n := by simpa using h.1
  subst hn
  have hA := Lib.hid h
  clear h
  go_enter Try.func12, Try.ntmps12
  go_wp2_with fail
  refine (newF _ _ N (has_old w) h0 h1).mono ?_; rintro e w2 ⟨p, rfl, h2, x2⟩
  have h3 := h2.alloc (.cells #[(Value.int .i64) 0, (Value.int .i64) 0] 83)
  have x3 := x2.alloc (.cells #[(Value.int .i64) 0, (Value.int .i64) 0] 83)
  go_wp2_with fail
  refine (newM _ _ N h3 h0 h1).mono ?_; rintro e w3 ⟨q, rfl, h4, x4⟩
  have h5 := h4.p2
  have x5 := x3.trans x4
  have hs : memS N T l = putWords (takeN (Ms.new N.toNat) (min T.toNat N.toNat)) 0 l := rfl
  have HSM := Lib.hid hs
  have ok5 := Ms.Ok.new (n := N.toNat) (by omega)
  generalize Ms.new N.toNat = s5 at *
  clear h2 h3 h4 x2 x3 x4 hs
  go_wp2_with fail
  go_loopw [11] (fun t wr => ∃ (i : Nat), i ≤ min T.toNat N.toNat ∧ t = (Value.int .i64) i ∧ Has wr (framesAt p (takeN s5 i) * (memAt q (takeN s5 i) * old w w.heap.size)) ∧ Ext w wr) (fun t _ => N.toNat - (intOf t).toNat)
  case atStart => exact ⟨0, by omega, rfl, h5, x5⟩
  case round =>
    clear h5 x5
    obtain ⟨i, hi, rfl, hr, hx⟩ := hrel
    have oki := takeN_ok ok5 i
    by_cases hlt : i < min T.toNat N.toNat
    · have l1 : (i : Int) < T := by omega
      have l2 : (i : Int) < N := by omega
      have HS := Lib.hid (show (takeN s5 i).takeS = takeN s5 (i + 1) from rfl)
      generalize takeN s5 i = s at *
      go_wp2_with fail
      refine (takeF p s _ _ hr oki).mono ?_; rintro e w5 ⟨rfl, h5, x5⟩
      go_wp2_with fail
      refine (takeM q s _ _ h5.p2 oki).mono ?_; rintro e w6 ⟨rfl, h6, x6⟩
      rw [HS.out] at h6
      go_wp2_with fail
      go_roundw
      case rel => exact ⟨i + 1, by omega, by go_num, h6.p2, (hx.trans x5).trans x6⟩
      case measure => simp [intOf]; omega
    · have hie := Lib.hid (show i = min T.toNat N.toNat by omega)
      have l12 : ¬ ((i : Int) < T ∧ (i : Int) < N) := by omega
      have L12 := Lib.hid l12
      clear l12
      go_upto_region 6 with fail
      go_cut [31] (fun b wx => b = Value.bool false ∧ wr = wx)
      case first =>
        by_cases l1 : (i : Int) < T
        · have l2 : ¬ (i : Int) < N := fun h => L12.out ⟨l1, h⟩
          go_wp2_with fail
          go_meet
          case rel => exact ⟨rfl, rfl⟩
        · go_wp2_with fail
          go_meet
          case rel => exact ⟨rfl, rfl⟩
      case rest =>
        obtain ⟨rfl, rfl⟩ := hcut
        have HS := Lib.hid (show takeN s5 (min T.toNat N.toNat) = takeN s5 i by rw [hie.out])
        clear hie hi hlt
        generalize takeN s5 i = s at *
        go_wp2_with fail
        go_loopw [12] (fun t wz => ∃ (j : Nat), j ≤ l.length ∧ t = (Value.int .i64) j ∧ Has wz (framesAt p (putWords s 0 (l.take j)) * (memAt q (putWords s 0 (l.take j)) * old w w.heap.size)) ∧ Ext w wz) (fun t _ => l.length - (intOf t).toNat)
        case atStart => exact ⟨0, by omega, rfl, hr, hx⟩
        case round =>
          clear hr hx
          obtain ⟨j, hj, rfl, hz, hxz⟩ := hrel
          by_cases hjl : j < l.length
          · have HN := Lib.hid (putWords_take s l hjl)
            have okj := putWords_ok (l.take j) 0 oki fun x hx => hok x (List.mem_of_mem_take hx)
            obtain ⟨b, off, hb, hbl, hcc⟩ := (hA.out.old1 hz.right.right hxz).at_ (i := j) (xs := cellsU l[j]) (by simp [hjl])
            have d0 : wr.cell? ⟨b, off + j, none⟩ = some ((Value.int .u64) l[j]) := by
              have := hcc 0 _ rfl
              rw [Nat.mul_one] at this
              exact this
            clear hcc
            subst hb
            have hu := hok _ (List.getElem_mem hjl)
            generalize putWords s 0 (l.take j) = sj at *
            generalize hv : l[j] = v at *
            have HV := Lib.hid hv
            clear hv
            go_wp2_with fail
            refine (takenM q sj _ _ _ hz.p2).mono ?_; rintro e w' ⟨rfl, rfl⟩
            cases hk : sj.has ((j : Int) / 8) with
            | false =>
              have he : storeS sj ((j : Int) / 8) ((j : Int) % 8) v = sj := by
                unfold storeS
                rw [if_neg]
                intro hw
                rw [(hasW_iff.1 hw).1] at hk
                cases hk
              rw [he] at HN
              clear he
              go_wp2_with fail
              go_roundw
              case rel => exact ⟨j + 1, by omega, by go_num, by rw [HN.out]; exact hz, hxz⟩
              case measure => simp [intOf]; omega
            | true =>
              have hw : sj.hasW ((j : Int) / 8) ((j : Int) % 8) = true := hasW_iff.2 ⟨hk, by omega, by omega⟩
              have he : storeS sj ((j : Int) / 8) ((j : Int) % 8) v = sj.setW ((j : Int) / 8).toNat ((j : Int) % 8).toNat v := by unfold storeS; rw [if_pos hw]
              rw [he] at HN
              have hst := Lib.hid (fun R w h => storeF p sj ((j : Int) / 8) ((j : Int) % 8) v R w h)
              rw [he, hw] at hst
              obtain ⟨k0, k1, _⟩ := Ms.has_iff.1 hk
              have hq0 : 0 ≤ (j : Int) % 8 := by omega
              have hq8 : (j : Int) % 8 < 8 := by omega
              clear he hw hk
              obtain ⟨k, hke⟩ := Int.eq_ofNat_of_zero_le k0
              obtain ⟨t, hte⟩ := Int.eq_ofNat_of_zero_le hq0
              rw [hke, hte] at HN hst
              rw [hke] at k0 k1
              rw [hte] at hq0 hq8
              simp only [Int.toNat_natCast] at HN hst
              have hmod : (j : Int).tmod 8 = (t : Int) := by rw [Int.tmod_eq_emod_of_nonneg (by omega)]; exact hte
              go_wp2_with fail
              refine (hst.out _ _ hz).mono ?_; rintro e w5 ⟨rfl, h5, x5⟩
              have x5 := hxz.trans x5
              obtain ⟨b', off', hb', hbl', hcc⟩ := (hA.out.old1 h5.right.right x5).at_ (i := j) (xs := cellsU v) (by rw [List.getElem?_map, List.getElem?_eq_getElem hjl, HV.out]; rfl)
              injection hb' with hb'
              injection hb' with hb1 hb2
              subst hb1; subst hb2
              have d1 : w5.cell? ⟨b, off + j, none⟩ = some ((Value.int .u64) v) := by
                have := hcc 0 _ rfl
                rw [Nat.mul_one] at this
                exact this
              obtain ⟨gw, gi, vk, hq⟩ := memAt_open h5.p2
              obtain ⟨q0, q1, q2, q3⟩ := hq.cells4
              have gl := hq.right.lt
              have gf := hq.right.free (k * 8 + t)
              have gc := mem_word hq (k := k) (i := t) (by omega) (by omega)
              have hqs := mem_setW hq (k := k) (i := t) (by omega) v
              obtain ⟨e0, _⟩ := hqs.cells4
              have h6 := (memAt_shut hqs).p2
              clear hqs
              obtain ⟨b', off', hb', _, hcc⟩ := (hA.out.old1 h6.right.right (x5.set _ _)).at_ (i := j) (xs := cellsU v) (by rw [List.getElem?_map, List.getElem?_eq_getElem hjl, HV.out]; rfl)
              injection hb' with hb'
              injection hb' with hb1 hb2
              subst hb1; subst hb2
              have d2 : (w5.setCell ⟨gw, k * 8 + t, none⟩ ((Value.int .u64) v)).cell? ⟨b, off + j, none⟩ = some ((Value.int .u64) v) := by
                have := hcc 0 _ rfl
                rw [Nat.mul_one] at this
                exact this
              clear hq hcc hst d0 hz hxz hbl hbl'
              go_wp2_with fail
              go_region_held3 (fun w' => w'.cell? ⟨q, 0, none⟩ = some (.slice (some ⟨gw, 0, none⟩) sj.n sj.n) ∧ w'.cell? ⟨b, off + j, none⟩ = some ((Value.int .u64) v)) (first | exact ⟨q0, d1⟩ | exact ⟨e0, d2⟩) (fail)
              all_goals
                go_wp2_with fail
                go_roundw
                case rel => exact ⟨j + 1, by omega, by go_num, by rw [HN.out]; exact h6.drew, (x5.set _ _).drew⟩
                case measure => simp [intOf]; omega
          · have hje := Lib.hid (show putWords s 0 l = putWords s 0 (l.take j) by rw [List.take_of_length_le (by omega)])
            go_wp2_with fail
            exact bodyPost_ret (v := .tuple #[.pointer (some ⟨p, 0, none⟩), .pointer (some ⟨q, 0, none⟩)]) (by simp [results, Try.results12]) rfl ⟨p, q, rfl, by rw [HSM.out, HS.out, hje.out]; exact hz, hxz⟩
end Go.Proofs.Ytegkimecdonfgaa
namespace Go.Proofs.Ytegkimecdonfgaa
open Go.RowKit
/-- What is taken, the first one first. -/
def tops (s : Ms) : Nat → List Int | 0 => [] | k + 1 => tops s k ++ [(takeN s k).topV]
def giveL (s : Ms) (l : List Int) : Ms := l.foldl Ms.giveS s
theorem tops_len (s : Ms) : ∀ k, (tops s k).length = k | 0 => rfl | k + 1 => by simp [tops, tops_len s k]
theorem giveL_ok {s : Ms} (h : s.Ok) : ∀ l, (giveL s l).Ok
  | [] => h
  | k :: l => giveL_ok (h.giveS k) l
theorem giveL_snoc (s : Ms) (l : List Int) (k : Int) : giveL s (l ++ [k]) = (giveL s l).giveS k := by simp [giveL]
theorem takeS_frees {s : Ms} {k : Nat} (h : s.top = some k) : s.takeS.frees ++ [k] = s.frees := by
  unfold Ms.takeS
  rw [h]
  exact Ms.frees_take s k h
theorem takeN_frees (s : Ms) : ∀ k, k ≤ s.frees.length → (takeN s k).frees = s.frees.take (s.frees.length - k)
  | 0, _ => by simp [takeN]
  | k + 1, h => by
    have ih := takeN_frees s k (by omega)
    obtain ⟨t, ht⟩ := top_of (s := takeN s k) (by rw [ih]; simp; omega)
    have h1 := takeS_frees ht
    show (takeN s k).takeS.frees = _
    have h2 : (takeN s k).takeS.frees = (takeN s k).frees.dropLast := by rw [← h1]; simp
    rw [h2, ih, List.dropLast_eq_take, List.take_take, List.length_take]
    congr 1
    omega
theorem Agree.giveS {s s' : Ms} (h : Agree s s') (k : Int) : Agree (s.giveS k) (s'.giveS k) := by
  unfold Ms.giveS
  rw [← h.has k]
  split
  · refine ⟨h.n, fun j => ?_, ?_, fun j i hj => ?_⟩
    · show fput s.tk k.toNat false j = fput s'.tk k.toNat false j
      unfold fput
      rw [h.tk]
    · rw [Ms.frees_give, Ms.frees_give, h.fr]
    · have hj : fput s.tk k.toNat false j = true := hj
      unfold fput at hj
      split at hj
      · cases hj
      · exact h.wd j i hj
  · exact h
theorem Agree.giveL {s s' : Ms} : ∀ (l : List Int), Agree s s' → Agree (giveL s l) (giveL s' l)
  | [], h => h
  | k :: l, h => Agree.giveL l (h.giveS k)
/-- What is taken and given back is as it was. -/
theorem take_give {s : Ms} (hs : s.Ok) {k : Nat} (h : s.top = some k) : Agree (s.takeS.giveS (k : Int)) s := by
  have hl := Ms.top_lt hs.inv h
  have h1 := takeS_frees h
  have hts : s.takeS = s.take k := by unfold Ms.takeS; rw [h]
  have hh : s.takeS.has (k : Int) = true := by rw [hts]; exact has_take_self hl.1
  have hg : s.takeS.giveS (k : Int) = s.takeS.give k := by unfold Ms.giveS; rw [if_pos hh]; rfl
  rw [hg]
  refine ⟨?_, fun j => ?_, ?_, fun j i hj => ?_⟩
  · show s.takeS.n = s.n
    exact Ms.takeS_n s
  · show fput s.takeS.tk k false j = s.tk j
    rw [hts]
    show fput (fput s.tk k true) k false j = s.tk j
    unfold fput
    by_cases e : j = k
    · rw [if_pos e, e, hl.2]
    · rw [if_neg e, if_neg e]
  · rw [Ms.frees_give, h1]
  · have hj : fput s.takeS.tk k false j = true := hj
    unfold fput at hj
    split at hj
    · cases hj
    · rename_i e
      show s.takeS.wd j i = s.wd j i
      rw [hts]
      show (if j = k then (0 : Int) else s.wd j i) = s.wd j i
      rw [if_neg e]
theorem takeN_give {s : Ms} (hs : s.Ok) : ∀ k, k ≤ s.frees.length → Agree (giveL (takeN s k) (tops s k).reverse) s
  | 0, _ => Agree.refl s
  | k + 1, h => by
    have hlen : 0 < (takeN s k).frees.length := by rw [takeN_frees s k (by omega)]; simp; omega
    obtain ⟨t, ht⟩ := top_of hlen
    have e1 : (takeN s k).topV = (t : Int) := by unfold Ms.topV; rw [ht]
    show Agree (giveL (takeN s k).takeS (tops s k ++ [(takeN s k).topV]).reverse) s
    rw [List.reverse_append, e1]
    show Agree (giveL ((takeN s k).takeS.giveS (t : Int)) (tops s k).reverse) s
    exact (Agree.giveL _ (take_give (takeN_ok hs k) ht)).trans (takeN_give hs k (by omega))
theorem takeN_top {s : Ms} {k : Nat} (hk : k ≤ s.frees.length) : ((takeN s k).topV < 0) ↔ k = s.frees.length := by
  have hf := takeN_frees s k hk
  constructor
  · intro h
    apply Classical.byContradiction
    intro hn
    obtain ⟨t, ht⟩ := top_of (s := takeN s k) (by rw [hf]; simp; omega)
    unfold Ms.topV at h
    rw [ht] at h
    have : (0 : Int) ≤ t := by omega
    dsimp only at h
    omega
  · intro h
    have he : (takeN s k).frees = [] := by rw [hf, h]; simp
    have ht : (takeN s k).top = none := by rw [← Ms.frees_top, he]; rfl
    unfold Ms.topV
    rw [ht]
    decide
end Go.Proofs.Ytegkimecdonfgaa
namespace Go.Proofs.Ytegkimecdonfgaa
open Go.RowKit
/-- A book that says what the tables say. -/
structure Lk (s : Ms) (r : Int) (L : List Mp) : Prop where
  ok : Bk.Ok L
  same : ∀ q, InP q → Bk.find L q = mapAt s r q
section
variable {s : Ms} {r : Int} {gone : List Int} {X : Int → Prop} {L : List Mp}
theorem MapOk.inP {x : Mp} (h : MapOk x) : InP x.page := ⟨h.p0, by have := h.p1; have := h.sp; omega⟩
theorem Bk.mem_find {L : List Mp} (h : Bk.Ok L) {m : Mp} (hm : m ∈ L) : Bk.find L m.page = some m := by
  obtain ⟨k, hk, rfl⟩ := List.getElem_of_mem hm
  have hc := h.chk _ (List.getElem_mem hk)
  exact (Bk.over_at h hk (over_iff.2 ⟨by omega, by have := hc.sp; omega⟩)).2
theorem Bk.find_mem {L : List Mp} {p : Int} {m : Mp} (h : Bk.find L p = some m) : m ∈ L ∧ over m p = true := ⟨List.mem_of_find?_eq_some h, by have := List.find?_some h; exact this⟩
theorem Lk.mem (h : Lk s r L) {m : Mp} (hm : m ∈ L) : mapAt s r m.page = some m := by
  rw [← h.same _ (h.ok.chk _ hm).inP]
  exact Bk.mem_find h.ok hm
/-- Two books that say the same of each page are the same. -/
theorem Bk.ext_find {a b : List Mp} (ha : Bk.Ok a) (hb : Bk.Ok b) (h : ∀ q, InP q → Bk.find a q = Bk.find b q) : a = b := by
  refine Bk.Ok.ext ha hb fun x => ?_
  constructor
  · intro hx
    have := Bk.mem_find ha hx
    rw [h _ (ha.chk _ hx).inP] at this
    exact (Bk.find_mem this).1
  · intro hx
    have := Bk.mem_find hb hx
    rw [← h _ (hb.chk _ hx).inP] at this
    exact (Bk.find_mem this).1
theorem Lk.unique {K : List Mp} (h : Lk s r L) (k : Lk s r K) : L = K := Bk.ext_find h.ok k.ok fun q hq => (h.same q hq).trans (k.same q hq).symm
/-- What a page that is of two mappings says of them. -/
theorem meet_of {a b : Mp} (ha : MapOk a) (hb : MapOk b) {q : Int} (h1 : over a q = true) (h2 : over b q = true) : meet a b = true := by
  cases h : meet a b with
  | true => rfl
  | false =>
    have := (meet_false ha hb).1 h
    have := over_iff.1 h1
    have := over_iff.1 h2
    omega
/-- Below a table there is a mapping. -/
theorem Wf.some_map (hw : Wf s r gone (fun _ => False)) : ∀ (n d : Nat), n + d = 2 → ∀ {p t : Int}, InP p → tabD s r p (d + 1) = some t → ∃ q, InP q ∧ q / pow8 (3 - d) = p / pow8 (3 - d) ∧ mapAt s r q ≠ none := by
  intro n
  induction n with
  | zero =>
    intro d hd p t hp ht
    obtain rfl : d = 2 := by omega
    rcases hw.full p 2 t hp (by omega) ht with h | ⟨i, hi, hne⟩
    · cases h
    obtain ⟨q, hq, hpre, hix, _⟩ := page_at hp (show 0 ≤ 3 by omega) i hi
    have hq' : tabD s r q 3 = some t := by rw [← ht]; exact tabD_prefix s r hq hp 3 (by omega) hpre
    obtain ⟨h1, h2⟩ := hw.at_ hq (by omega) hq'
    have hd0 : decC (wordV s t (index q (0 : Nat))) (0 : Nat) = 0 := h2
    have hl := dec0_leaf hd0
    have hE : Ends s r q 3 t := by
      refine ⟨by omega, hq', h1, h2, ?_⟩
      unfold goB eOf
      show (_ && (_ && ((decE (wordV s t (index q (0 : Nat))) (0 : Nat)).there && !(decE (wordV s t (index q (0 : Nat))) (0 : Nat)).leaf))) = false
      rcases hl with e | e <;> simp_all
    refine ⟨q, hq, hpre, ?_⟩
    rw [mapAt_ends hq hE]
    have ht' : (eOf s q t (3 - 3)).there = true := by
      cases h : (eOf s q t (3 - 3)).there with
      | true => rfl
      | false =>
        have := (hE.not h).2
        have hix' : index q (3 - 3 : Nat) = i := hix
        rw [hix'] at this
        exact absurd this hne
    rw [if_pos (hE.leafOf ht')]
    simp
  | succ n ih =>
    intro d hd p t hp ht
    rcases hw.full p d t hp (by omega) ht with h | ⟨i, hi, hne⟩
    · cases h
    obtain ⟨q, hq, hpre, hix, _⟩ := page_at hp (show 2 - d ≤ 3 by omega) i hi
    have e1 : 2 - d + 1 = 3 - d := by omega
    have e2 : 3 - (d + 1) = 2 - d := by omega
    rw [e1] at hpre
    have hq' : tabD s r q (d + 1) = some t := by rw [← ht]; exact tabD_prefix s r hq hp (d + 1) (by omega) (by rw [show 4 - (d + 1) = 3 - d by omega]; exact hpre)
    cases hg : goB s q t (3 - (d + 1)) with
    | true =>
      have hv : tabD s r q (d + 1 + 1) = some (eOf s q t (3 - (d + 1))).frame := tabD_succ.2 ⟨t, hq', hg, rfl⟩
      obtain ⟨x, hx, hxp, hxm⟩ := ih (d + 1) (by omega) hq hv
      refine ⟨x, hx, ?_, hxm⟩
      rw [← hpre]
      exact div_up (by omega) hxp
    | false =>
      obtain ⟨h1, h2⟩ := hw.at_ hq (by omega) hq'
      have hE : Ends s r q (d + 1) t := ⟨by omega, hq', h1, h2, hg⟩
      refine ⟨q, hq, hpre, ?_⟩
      rw [mapAt_ends hq hE]
      have ht' : (eOf s q t (3 - (d + 1))).there = true := by
        cases h : (eOf s q t (3 - (d + 1))).there with
        | true => rfl
        | false =>
          have := (hE.not h).2
          rw [e2, hix] at this
          exact absurd this hne
      rw [if_pos (hE.leafOf ht')]
      simp
/-- Where a mapping may stand: just where the book lets it. -/
theorem there_bad (hw : Wf s r gone (fun _ => False)) (hL : Lk s r L) {x : Mp} (hx : MapOk x) : ((way s r x.page).e.there = true ∨ (way s r x.page).lev < x.size) ↔ Bk.bad L x = true := by
  have hp := hx.inP
  obtain ⟨d, t, he⟩ := hw.ends _ hp
  have hle := he.le
  obtain ⟨z, hz, hz3⟩ : ∃ z : Nat, x.size = z ∧ z < 3 := by
    rcases hx.size with ⟨a, _⟩ | ⟨a, _⟩ | ⟨a, _⟩
    · exact ⟨0, a, by omega⟩
    · exact ⟨1, a, by omega⟩
    · exact ⟨2, a, by omega⟩
  have hsp : span x.size = pow8 z := by rw [hz]; exact span_pow hz3
  have hxe : x = ⟨x.page / pow8 z * pow8 z, z, x.frame, x.rights⟩ := by
    have := hx.al
    rw [hsp] at this
    have h8 := pow8_pos z
    have e : x.page / pow8 z * pow8 z = x.page := by have := Int.mul_ediv_add_emod x.page (pow8 z); rw [Int.mul_comm]; omega
    rw [e, ← hz]
  have hov : ∀ q, over x q = decide (q / pow8 z = x.page / pow8 z) := fun q => by
    conv => lhs; rw [hxe]
    exact over_pre hz3 _ _ _ _
  rw [way_ends hp.1 hp.2 he]
  dsimp only
  rw [hz]
  constructor
  · rintro (h | h)
    · have hl := he.leafOf h
      have hm : mapAt s r x.page = some (leafMap (eOf s x.page t (3 - d)) ((3 - d : Nat) : Int) x.page) := by rw [mapAt_ends hp he, if_pos hl]
      obtain ⟨h1, h2⟩ := hw.self hp hm
      rw [← hL.same _ hp] at hm
      exact Bk.bad_find (by rw [hm]; rfl)
    · have hz1 : 3 - d < z := by omega
      obtain ⟨u, hu⟩ := tabD_some_mono he.tab (show 3 - z + 1 ≤ d by omega)
      obtain ⟨q, hq, hpre, hqm⟩ := hw.some_map (z - 1) (3 - z) (by omega) hp hu
      rw [show 3 - (3 - z) = z by omega] at hpre
      cases hm : mapAt s r q with
      | none => exact absurd hm hqm
      | some m =>
        obtain ⟨h1, h2⟩ := hw.self hq hm
        rw [← hL.same _ hq] at hm
        have hmem := (Bk.find_mem hm).1
        have : meet m x = true := meet_of h2 hx h1 (by rw [hov]; exact decide_eq_true hpre)
        exact List.any_eq_true.2 ⟨m, hmem, this⟩
  · intro hb
    obtain ⟨m, hm, hmeet⟩ := List.any_eq_true.1 hb
    have hmo := hL.ok.chk _ hm
    have hma := hL.mem hm
    apply Classical.byContradiction
    intro hn
    rw [not_or] at hn
    have ht : (eOf s x.page t (3 - d)).there = false := by simpa using hn.1
    have hzl : z ≤ 3 - d := by omega
    unfold meet at hmeet
    rcases Bool.or_eq_true_iff.1 hmeet with h | h
    · have := Wf.overMap hw hmo.inP hp hma h hw
      rw [mapAt_ends hp he, (he.not ht).1] at this
      cases this
    · rw [hov] at h
      have hpre := div_up hzl (of_decide_eq_true h)
      obtain ⟨hs, hse⟩ := he.same hp hmo.inP hpre
      rw [mapAt_ends hmo.inP hs, hse, (he.not ht).1] at hma
      cases hma
theorem ins_code (hw : Wf s r gone (fun _ => False)) (hL : Lk s r L) (x : Mp) : (insC s r x = 6 ∧ check x = 0 ∧ Bk.bad L x = false ∧ s.frees.length < 3) ∨ insC s r x = Bk.addC L x := by
  unfold insC Bk.addC
  by_cases hc : check x = 0
  · have hx := mapOk_of hc
    have hp := hx.inP
    have hwc := (wayE_map hw hp).1
    have hb := there_bad hw hL hx
    have hcn : ¬ (check x ≠ 0) := by omega
    have hwn : ¬ ((way s r x.page).code ≠ 0) := by rw [hwc]; simp
    rw [if_neg hcn, if_neg hwn, if_neg hcn]
    by_cases h : (way s r x.page).e.there = true ∨ (way s r x.page).lev < x.size
    · rw [if_pos h, if_pos (hb.1 h)]
      exact .inr rfl
    · rw [if_neg h]
      have hbf : Bk.bad L x = false := by
        cases hbb : Bk.bad L x with
        | false => rfl
        | true => exact absurd (hb.2 hbb) h
      by_cases hf : (s.frees.length : Int) < (way s r x.page).lev - x.size
      · rw [if_pos hf]
        refine .inl ⟨rfl, hc, hbf, ?_⟩
        obtain ⟨d, t, he⟩ := hw.ends _ hp
        rw [way_ends hp.1 hp.2 he] at hf
        dsimp only at hf
        have h0 : 0 ≤ x.size := by rcases hx.size with ⟨a, _⟩ | ⟨a, _⟩ | ⟨a, _⟩ <;> omega
        by_cases hd : d = 0
        · subst hd
          by_cases h3 : s.frees.length < 3
          · exact h3
          · exfalso
            rcases hx.size with ⟨a, _⟩ | ⟨a, _⟩ | ⟨a, _⟩ <;> omega
        · omega
      · rw [if_neg hf, if_neg (by rw [hbf]; simp)]
        exact .inr rfl
  · rw [if_pos hc, if_pos hc]
    exact .inr rfl
/-- Insert. -/
theorem ins_ok (hw : Wf s r gone (fun _ => False)) (hi : s.Inv) (hn : s.n ≤ 128) (x : Mp) :
    Wf (insS s r x) r gone (fun _ => False) ∧ (insS s r x).Inv ∧ (insS s r x).n = s.n ∧
    ∀ q, InP q → mapAt (insS s r x) r q = (if insC s r x = 0 ∧ over x q = true then some x else mapAt s r q) ∧
      (mapAt s r q ≠ none → way (insS s r x) r q = way s r q) ∧
      (insC s r x = 0 ∧ over x q = true → mapAt s r q = none ∧ (way (insS s r x) r q).e = leafE x) := by
  unfold insS
  by_cases hc : insC s r x = 0
  · rw [if_pos hc]
    have hc0 := hc
    unfold insC at hc0
    by_cases hk : check x = 0
    · have hx := mapOk_of hk
      have hp := hx.inP
      have hwc := (wayE_map hw hp).1
      rw [if_neg (by omega), if_neg (by rw [hwc]; simp)] at hc0
      by_cases h : (way s r x.page).e.there = true ∨ (way s r x.page).lev < x.size
      · rw [if_pos h] at hc0; cases hc0
      rw [if_neg h] at hc0
      by_cases hf : (s.frees.length : Int) < (way s r x.page).lev - x.size
      · rw [if_pos hf] at hc0; cases hc0
      rw [not_or] at h
      obtain ⟨d, t, he⟩ := hw.ends _ hp
      have hle := he.le
      rw [way_ends hp.1 hp.2 he] at h hf ⊢
      dsimp only at h hf ⊢
      rw [tabsD_last he.tab]
      obtain ⟨z, hz, hz3⟩ : ∃ z : Nat, x.size = z ∧ z < 3 := by
        rcases hx.size with ⟨a, _⟩ | ⟨a, _⟩ | ⟨a, _⟩
        · exact ⟨0, a, by omega⟩
        · exact ⟨1, a, by omega⟩
        · exact ⟨2, a, by omega⟩
      have hsp : span x.size = pow8 z := by rw [hz]; exact span_pow hz3
      have h8 := pow8_pos z
      have hal : x.page / pow8 z * pow8 z = x.page := by have := Int.mul_ediv_add_emod x.page (pow8 z); have h2 := hx.al; rw [hsp] at h2; rw [Int.mul_comm]; omega
      have hxe : x = ⟨x.page / pow8 z * pow8 z, z, x.frame, x.rights⟩ := by rw [hal, ← hz]
      have hov : ∀ q, over x q = decide (q / pow8 z = x.page / pow8 z) := fun q => by
        conv => lhs; rw [hxe]
        exact over_pre hz3 _ _ _ _
      have hfa : entFault (leafE x) z = 0 := by
        refine entFault_ok rfl ⟨by omega, by omega, hx.r0, hx.r7, hx.f0, hx.f1, fun _ => ⟨by omega, ?_⟩, fun h => by cases h⟩
        have := hx.fa
        rw [hz] at this
        exact this
      obtain ⟨k1, k2, k3⟩ := dec_enc hfa
      have hrg : 0 ≤ encW (leafE x) z ∧ encW (leafE x) z < 18446744073709551616 := by
        have := wordE_ne (entOk_of hfa rfl)
        unfold encW
        rw [if_pos ⟨hfa, rfl⟩]
        omega
      have ht : (eOf s x.page t (3 - d)).there = false := by simpa using h.1
      rw [hz] at h hf ⊢
      rw [Int.toNat_natCast]
      obtain ⟨n, hnn⟩ : ∃ n : Nat, ((3 - d : Nat) : Int) - z = n := ⟨3 - d - z, by omega⟩
      rw [hnn, Int.toNat_natCast]
      obtain ⟨i1, i2, i3, i4, i5⟩ := chain_ok (p := x.page) (lw := encW (leafE x) z) (sz := z) hp hz3 k1 (by rw [k2]; rfl) hrg n d t s r gone (fun _ => False) (by omega) hi hn (by omega) hw (fun _ h => h.elim) he ht
      refine ⟨i1, i2, i3, fun q hq => ?_⟩
      have := i5 q hq
      by_cases hpre : q / pow8 z = x.page / pow8 z
      · rw [if_pos hpre, k2] at this
        have ho : over x q = true := by rw [hov]; exact decide_eq_true hpre
        have hlm : leafMap (leafE x) z q = x := by
          rw [leafMap_eq hq hfa rfl (span_pow hz3), hpre]
          exact hxe.symm
        have hnone : mapAt s r q = none := by
          obtain ⟨hs, hse⟩ := he.same hp hq (div_up (show z ≤ 3 - d by omega) hpre)
          rw [mapAt_ends hq hs, hse, (he.not ht).1]
          rfl
        refine ⟨?_, fun hne => absurd hnone hne, fun _ => ⟨hnone, this.2⟩⟩
        rw [this.1, hlm, if_pos ⟨hc, ho⟩]
      · rw [if_neg hpre] at this
        have ho : ¬ over x q = true := by rw [hov]; simpa using hpre
        refine ⟨?_, this.2, fun h => absurd h.2 ho⟩
        rw [this.1, if_neg (fun h => ho h.2)]
    · rw [if_pos hk] at hc0
      exact absurd hc0 hk
  · rw [if_neg hc]
    exact ⟨hw, hi, rfl, fun q hq => ⟨by rw [if_neg (fun h => hc h.1)], fun _ => rfl, fun h => absurd h.1 hc⟩⟩
end
end Go.Proofs.Ytegkimecdonfgaa
namespace Go.Proofs.Ytegkimecdonfgaa
open Go.RowKit
structure Ck where
  on : Bool
  a : Ac
  t : Int
  level : Int
  mark : Bool
  w : Int
/-- What a step tells. -/
structure Rs where
  fin : Bool
  an : An
  ln : Ln
def Rs.zero : Rs := ⟨false, An.zero, ⟨Mp.zero, false⟩⟩
def Ck.zero : Ck := ⟨false, Ac.zero, 0, 0, false, 0⟩
def Ck.idle (c : Ck) : Ck := { c with on := false, a := Ac.zero, mark := false }
def Ck.again (c : Ck) (root : Int) : Ck := if c.on = true then { c with t := root, level := 3, mark := false } else c
def readyE (e : En) (a : Ac) : Bool := e.used && (e.dirty || a.kind != 1)
def markE (e : En) (a : Ac) : En := { e with used := true, dirty := e.dirty || a.kind == 1 }
structure Sp where
  c : Ck
  s : Ms
  r : Rs
  code : Int
/-- The word that a step reads. -/
def Ck.word (c : Ck) (s : Ms) : Int := wordV s c.t (index c.a.page c.level)
def Ck.leafEnd (c : Ck) (s : Ms) (e : En) : Sp :=
  ⟨c.idle, s, ⟨true, answer (leafMap e c.level c.a.page) c.a, ⟨leafMap e c.level c.a.page, e.dirty⟩⟩, 0⟩
def Ck.endWith (c : Ck) (s : Ms) (f : Int) : Sp := ⟨c.idle, s, ⟨true, ⟨f, 0, 0⟩, ⟨Mp.zero, false⟩⟩, 0⟩
/-- A step. -/
def stepC (s : Ms) (root : Int) (c : Ck) : Sp :=
  if c.on = false then ⟨c, s, Rs.zero, 9⟩
  else if s.has c.t = false then ⟨c, s, Rs.zero, 12⟩
  else if c.mark = true ∧ c.word s ≠ c.w then ⟨c.again root, s, Rs.zero, 0⟩
  else if decC (c.word s) c.level ≠ 0 then ⟨c, s, Rs.zero, decC (c.word s) c.level⟩
  else if (decE (c.word s) c.level).there = false then c.endWith s 1
  else if (decE (c.word s) c.level).leaf = false then ⟨{ c with t := (decE (c.word s) c.level).frame, level := c.level - 1 }, s, Rs.zero, 0⟩
  else if may (decE (c.word s) c.level).rights c.a = false then c.endWith s 2
  else if c.mark = true then
    c.leafEnd (s.setW c.t.toNat (index c.a.page c.level).toNat (encW (markE (decE (c.word s) c.level) c.a) c.level)) (markE (decE (c.word s) c.level) c.a)
  else if readyE (decE (c.word s) c.level) c.a = true then c.leafEnd s (decE (c.word s) c.level)
  else ⟨{ c with mark := true, w := c.word s }, s, Rs.zero, 0⟩
/-- Where a walk may be. -/
structure Ck.Ok (c : Ck) : Prop where
  acc : c.on = true → checkAccess c.a = 0
  l0 : c.on = true → 0 ≤ c.level
  l3 : c.on = true → c.level ≤ 3
  off : c.on = false → c.a = Ac.zero ∧ c.mark = false
  dec : c.mark = true → decC c.w c.level = 0
  leaf : c.mark = true → (decE c.w c.level).there = true ∧ (decE c.w c.level).leaf = true
  may : c.mark = true → may (decE c.w c.level).rights c.a = true
  need : c.mark = true → readyE (decE c.w c.level) c.a = false
theorem Ck.Ok.zero : Ck.zero.Ok := ⟨fun h => (by cases h), fun h => (by cases h), fun h => (by cases h), fun _ => ⟨rfl, rfl⟩, fun h => (by cases h), fun h => (by cases h), fun h => (by cases h), fun h => (by cases h)⟩
theorem Ck.Ok.idle {c : Ck} : c.idle.Ok := ⟨fun h => (by cases h), fun h => (by cases h), fun h => (by cases h), fun _ => ⟨rfl, rfl⟩, fun h => (by cases h), fun h => (by cases h), fun h => (by cases h), fun h => (by cases h)⟩
theorem Ck.Ok.again {c : Ck} (h : c.Ok) (root : Int) : (c.again root).Ok := by
  unfold Ck.again
  split
  · rename_i hon
    exact ⟨fun _ => h.acc hon, fun _ => (by show (0 : Int) ≤ 3; omega), fun _ => (by show (3 : Int) ≤ 3; omega), fun h => (by rw [hon] at h; cases h), fun h => (by cases h), fun h => (by cases h), fun h => (by cases h), fun h => (by cases h)⟩
  · exact h
theorem Ck.Ok.step {c : Ck} (h : c.Ok) (s : Ms) (root : Int) : (stepC s root c).c.Ok := by
  unfold stepC
  split
  · exact h
  rename_i hon
  have hon : c.on = true := by simpa using hon
  split
  · exact h
  split
  · exact h.again root
  rename_i hm
  split
  · exact h
  rename_i hd
  have hd : decC (c.word s) c.level = 0 := by simpa using hd
  split
  · exact Ck.Ok.idle
  rename_i ht
  split
  · rename_i hl
    have hmk : c.mark = false := by
      cases hmk : c.mark with
      | false => rfl
      | true =>
        have e : c.word s = c.w := Decidable.byContradiction fun e => hm ⟨hmk, e⟩
        have := (h.leaf hmk).2
        rw [← e, hl] at this
        cases this
    have h0 := h.l0 hon
    have hpos : 0 < c.level := by
      refine Decidable.byContradiction fun hn => ?_
      have e0 : c.level = 0 := by omega
      rw [e0] at hd ht hl
      rcases dec0_leaf hd with hx | hx
      · exact ht hx
      · rw [hl] at hx; cases hx
    have h3 := h.l3 hon
    exact ⟨fun _ => h.acc hon, fun _ => (by show 0 ≤ c.level - 1; omega), fun _ => (by show c.level - 1 ≤ 3; omega), fun hx => (by have : c.on = false := hx; rw [hon] at this; cases this), fun hx => (by have : c.mark = true := hx; rw [hmk] at this; cases this),
      fun hx => (by have : c.mark = true := hx; rw [hmk] at this; cases this), fun hx => (by have : c.mark = true := hx; rw [hmk] at this; cases this), fun hx => (by have : c.mark = true := hx; rw [hmk] at this; cases this)⟩
  rename_i hl
  split
  · exact Ck.Ok.idle
  rename_i hmay
  split
  · exact Ck.Ok.idle
  split
  · exact Ck.Ok.idle
  rename_i hr
  exact ⟨h.acc, h.l0, h.l3, fun hx => (by have : c.on = false := hx; rw [hon] at this; cases this), fun _ => hd, fun _ => ⟨by simpa using ht, by simpa using hl⟩, fun _ => (by simpa using hmay), fun _ => (by simpa using hr)⟩
/-- A mark is needed just if the leaf is not what it must be. -/
theorem mark_ready (e : En) (a : Ac) : markE e a = e ↔ readyE e a = true := by
  obtain ⟨t, l, r, u, d, f⟩ := e
  unfold markE readyE
  constructor
  · intro h
    injection h with _ _ _ h4 h5 _
    cases u <;> cases d <;> simp_all
  · intro h
    cases u <;> cases d <;> simp_all
end Go.Proofs.Ytegkimecdonfgaa
namespace Go.Proofs.Ytegkimecdonfgaa
open Go.RowKit
section
variable {s : Ms} {r : Int} {gone : List Int} {X : Int → Prop} {L : List Mp}
theorem stop_zero {L : Nat} (h : L ≤ 3) : stopW 0 L := ⟨(dec_zero h).1, by rw [(dec_zero h).2]; simp [En.zero]⟩
/-- A word at the end of a way becomes none, or a leaf: what ways tell then. -/
theorem put_map (hw : Wf s r gone X) {p t v : Int} {d : Nat} (hp : InP p) (he : Ends s r p d t) (hv : stopW v (3 - d)) : ∀ q, InP q →
    if q / pow8 (3 - d) = p / pow8 (3 - d) then way (putAt s p t d v) r q = ⟨0, tabsD s r q (d + 1), ((3 - d : Nat) : Int), decE v (3 - d : Nat)⟩ ∧ way s r q = ⟨0, tabsD s r q (d + 1), ((3 - d : Nat) : Int), eOf s p t (3 - d)⟩
    else way (putAt s p t d v) r q = way s r q := by
  intro q hq
  obtain ⟨e, u, hu⟩ := hw.ends q hq
  obtain ⟨hu', hE⟩ := put_ends hw hp he.le he.tab he.no hv hq hu
  have htabs : tabsD (putAt s p t d v) r q (e + 1) = tabsD s r q (e + 1) := by
    unfold tabsD
    refine List.map_congr_left fun x hx => ?_
    rw [put_tab hw hp he.le he.tab he.no hv hq x (by have := List.mem_range.1 hx; have := hu.le; omega)]
  by_cases hpre : q / pow8 (3 - d) = p / pow8 (3 - d)
  · rw [if_pos hpre]
    obtain ⟨hs, hse⟩ := he.same hp hq hpre
    obtain ⟨rfl, rfl⟩ := hs.unique hu
    rw [if_pos ⟨rfl, hpre⟩] at hE
    rw [way_ends hq.1 hq.2 hu', way_ends hq.1 hq.2 hu, hE, hse, htabs]
    exact ⟨rfl, rfl⟩
  · rw [if_neg hpre]
    rw [if_neg (fun h => hpre h.2)] at hE
    rw [way_ends hq.1 hq.2 hu', way_ends hq.1 hq.2 hu, hE, htabs]
theorem mapAt_way {s s' : Ms} {r q : Int} (h : way s' r q = way s r q) : mapAt s' r q = mapAt s r q := by unfold mapAt; rw [h]
theorem find_zero {p : Int} (h : findC s r p = 0) : InP p := by
  apply Classical.byContradiction
  intro hn
  have := find_out (s := s) (r := r) hn
  unfold findC at h
  rw [this] at h
  cases h
/-- The mapping that is found, where it stands. -/
theorem Wf.found (hw : Wf s r gone X) {p : Int} (h : findC s r p = 0) : ∃ d t, Ends s r p d t ∧ (eOf s p t (3 - d)).leaf = true ∧ way s r p = ⟨0, tabsD s r p (d + 1), ((3 - d : Nat) : Int), eOf s p t (3 - d)⟩ ∧ mapAt s r p = some (findM s r p) ∧
    3 - d < 3 ∧ ∀ q, over (findM s r p) q = decide (q / pow8 (3 - d) = p / pow8 (3 - d)) := by
  have hp := find_zero h
  obtain ⟨d, t, he⟩ := hw.ends p hp
  have hwe := way_ends hp.1 hp.2 he
  have hf := hw.find hp
  rw [h] at hf
  have hm : mapAt s r p = some (findM s r p) := by
    cases hh : mapAt s r p with
    | none => rw [hh] at hf; cases hf.1
    | some m => rw [hf.2, hh]; rfl
  have hl : (eOf s p t (3 - d)).leaf = true := by
    rw [mapAt_ends hp he] at hm
    split at hm
    · assumption
    · cases hm
  have hfm : findM s r p = leafMap (eOf s p t (3 - d)) ((3 - d : Nat) : Int) p := by
    rw [mapAt_ends hp he, if_pos hl] at hm
    injection hm with hm
    exact hm.symm
  obtain ⟨h3, _, ho⟩ := he.map hp hl
  refine ⟨d, t, he, hl, hwe, hm, h3, fun q => ?_⟩
  rw [hfm]
  exact ho q
/-- Remove. -/
theorem rem_ok (hw : Wf s r gone (fun _ => False)) (hi : s.Inv) {p : Int} (hf : findC s r p = 0) :
    Wf (remS s r p) r ((remG s r p).reverse ++ gone) (fun _ => False) ∧ (remS s r p).Inv ∧ (remS s r p).n = s.n ∧ (remS s r p).frees = s.frees ∧ (∀ u, (remS s r p).tk u = s.tk u) ∧
    ∀ q, InP q → mapAt (remS s r p) r q = (if over (findM s r p) q = true then none else mapAt s r q) ∧ (over (findM s r p) q = false → mapAt s r q ≠ none → way (remS s r p) r q = way s r q) := by
  have hp := find_zero hf
  obtain ⟨d, t, he, hl, hwe, hm, h3, ho⟩ := hw.found hf
  have hle := he.le
  unfold remS remG
  rw [if_pos hf, if_pos hf, hwe]
  dsimp only
  rw [tabsD_len, Nat.add_sub_cancel]
  have hv := stop_zero (show 3 - d ≤ 3 by omega)
  have hP := hw.put hp he.le he.tab he.no hv
  have hX : Wf (putAt s p t d 0) r gone (fun u => u = t) := hP.mono (by
    rintro u (⟨a, _⟩ | a)
    · exact a.elim
    · exact a.2)
  have hmp := put_map hw hp he hv
  have hmap : ∀ q, InP q → mapAt (putAt s p t d 0) r q = (if over (findM s r p) q = true then none else mapAt s r q) ∧ (over (findM s r p) q = false → mapAt s r q ≠ none → way (putAt s p t d 0) r q = way s r q) := fun q hq => by
    have := hmp q hq
    rw [ho q]
    split at this
    · rename_i hpre
      rw [decide_eq_true hpre, if_pos rfl]
      refine ⟨?_, fun h => by cases h⟩
      unfold mapAt
      rw [this.1, (dec_zero (show 3 - d ≤ 3 by omega)).2]
      rfl
    · rename_i hpre
      rw [decide_eq_false hpre, if_neg (by simp)]
      exact ⟨mapAt_way this, fun _ _ => this⟩
  have hPi : (putAt s p t d 0).Inv := hi.setW _ _ (by omega)
  cases d with
  | zero =>
    have htr : t = r := by have := he.tab; injection this with this; exact this.symm
    have e0 : (tabsD s r p 1).getD 0 0 = t := tabsD_get he.tab (by omega)
    have es : cutR p (tabsD s r p (0 + 1)) 0 s = (putAt s p t 0 0, []) := by unfold cutR; rw [e0]
    rw [es]
    subst htr
    exact ⟨hX.no_root, hPi, rfl, rfl, fun _ => rfl, hmap⟩
  | succ k =>
    have e0 : (tabsD s r p (k + 1 + 1)).getD (k + 1) 0 = t := tabsD_get he.tab (by omega)
    have ez : s.setW ((tabsD s r p (k + 1 + 1)).getD (k + 1) 0).toNat (index p (3 - (k + 1) : Nat)).toNat 0 = putAt s p t (k + 1) 0 := by rw [e0]
    unfold cutR
    rw [ez, e0]
    by_cases hz : allZ (putAt s p t (k + 1) 0) t = true
    · rw [if_pos hz]
      have htab : ∀ j, j ≤ k + 1 → tabD (putAt s p t (k + 1) 0) r p j = tabD s r p j := fun j hj => put_tab hw hp he.le he.tab he.no hv hp j (by omega)
      obtain ⟨i1, i2, i3, i4, i5, i6⟩ := cutR_ok hp k (putAt s p t (k + 1) 0) r gone t (tabsD s r p (k + 1 + 1)) (by omega) hPi hX (by rw [htab _ (Nat.le_refl _)]; exact he.tab) hz (fun j hj => by
        rw [htab j (by omega)]
        obtain ⟨u, hu⟩ := tabD_some_mono he.tab (show j ≤ k + 1 by omega)
        rw [tabsD_get hu (by omega), hu]
        rfl)
      refine ⟨?_, i2, i3, i4, i5, fun q hq => ?_⟩
      · dsimp only
        rw [List.reverse_cons, List.append_assoc]
        exact i1
      · have a := i6 q hq
        have b := hmap q hq
        refine ⟨a.1.trans b.1, fun h1 h2 => ?_⟩
        have hb := b.2 h1 h2
        have : mapAt (putAt s p t (k + 1) 0) r q ≠ none := by rw [mapAt_way hb]; exact h2
        exact (a.2 this).trans hb
    · rw [if_neg hz]
      exact ⟨hX.no_full (by simpa using hz), hPi, rfl, rfl, fun _ => rfl, hmap⟩
/-- A leaf becomes another one. -/
theorem leaf_ok (hw : Wf s r gone (fun _ => False)) (hi : s.Inv) {p t : Int} {d : Nat} (hp : InP p) (he : Ends s r p d t) {e' : En} (hf : entFault e' (3 - d : Nat) = 0) (hl' : e'.leaf = true) :
    Wf (putAt s p t d (encW e' (3 - d : Nat))) r gone (fun _ => False) ∧ (putAt s p t d (encW e' (3 - d : Nat))).Inv ∧
    ∀ q, InP q → if q / pow8 (3 - d) = p / pow8 (3 - d) then way (putAt s p t d (encW e' (3 - d : Nat))) r q = ⟨0, tabsD s r q (d + 1), ((3 - d : Nat) : Int), e'⟩ ∧ way s r q = ⟨0, tabsD s r q (d + 1), ((3 - d : Nat) : Int), eOf s p t (3 - d)⟩
      else way (putAt s p t d (encW e' (3 - d : Nat))) r q = way s r q := by
  have ht : e'.there = true := by
    cases h : e'.there with
    | true => rfl
    | false => rw [entFault_not hf h] at hl'; cases hl'
  obtain ⟨k1, k2, k3⟩ := dec_enc hf
  have hv : stopW (encW e' (3 - d : Nat)) (3 - d) := ⟨k1, by rw [k2, hl']; simp⟩
  have hne : encW e' (3 - d : Nat) ≠ 0 := fun h => by rw [k3.1 h] at ht; cases ht
  have hrg : 0 ≤ encW e' (3 - d : Nat) ∧ encW e' (3 - d : Nat) < 18446744073709551616 := by
    have := wordE_ne (entOk_of hf ht)
    unfold encW
    rw [if_pos ⟨hf, ht⟩]
    omega
  refine ⟨(hw.put hp he.le he.tab he.no hv).mono ?_, hi.setW _ _ hrg, fun q hq => ?_⟩
  · rintro u (⟨a, _⟩ | a)
    · exact a
    · exact hne a.1
  · have := put_map hw hp he hv q hq
    rw [k2] at this
    exact this
theorem rights_ok {e : En} {l ri : Int} (hf : entFault e l = 0) (hl : e.leaf = true) (h0 : 0 ≤ ri) (h7 : ri ≤ 7) : entFault { e with rights := ri } l = 0 := by
  have ht : e.there = true := by
    cases h : e.there with
    | true => rfl
    | false => rw [entFault_not hf h] at hl; cases hl
  have hk := entOk_of hf ht
  exact entFault_ok ht ⟨hk.l0, hk.l4, h0, h7, hk.f0, hk.f1, hk.leaf, fun h => by rw [hl] at h; cases h⟩
theorem mark_ok {e : En} {l : Int} (a : Ac) (hf : entFault e l = 0) (hl : e.leaf = true) : entFault (markE e a) l = 0 ∧ (markE e a).leaf = true := by
  have ht : e.there = true := by
    cases h : e.there with
    | true => rfl
    | false => rw [entFault_not hf h] at hl; cases hl
  have hk := entOk_of hf ht
  exact ⟨entFault_ok ht ⟨hk.l0, hk.l4, hk.r0, hk.r7, hk.f0, hk.f1, hk.leaf, fun h => by have h' : e.leaf = false := h; rw [hl] at h'; cases h'⟩, hl⟩
/-- Protect. -/
theorem pr_ok (hw : Wf s r gone (fun _ => False)) (hi : s.Inv) {p ri : Int} (hf : prC s r p ri = 0) :
    Wf (prS s r p ri) r gone (fun _ => False) ∧ (prS s r p ri).Inv ∧ (prS s r p ri).n = s.n ∧ (prS s r p ri).frees = s.frees ∧ (∀ u, (prS s r p ri).tk u = s.tk u) ∧
    ∀ q, InP q → (over (findM s r p) q = true → mapAt s r q = some (findM s r p) ∧ mapAt (prS s r p ri) r q = some { findM s r p with rights := ri } ∧ (way (prS s r p ri) r q).e = { (way s r q).e with rights := ri }) ∧
      (over (findM s r p) q = false → way (prS s r p ri) r q = way s r q) := by
  have hr : 0 ≤ ri ∧ ri ≤ 7 := by
    unfold prC at hf
    split at hf
    · cases hf
    · omega
  have hf0 : findC s r p = 0 := by
    unfold prC at hf
    rw [if_neg (by omega)] at hf
    exact hf
  have hp := find_zero hf0
  obtain ⟨d, t, he, hl, hwe, hm, h3, ho⟩ := hw.found hf0
  have hef := (enc_dec he.dec).1
  have hf' : entFault { eOf s p t (3 - d) with rights := ri } (3 - d : Nat) = 0 := rights_ok hef hl hr.1 hr.2
  have es : prS s r p ri = putAt s p t d (encW { eOf s p t (3 - d) with rights := ri } (3 - d : Nat)) := by
    unfold prS
    rw [if_pos hf, hwe]
    dsimp only
    rw [tabsD_last he.tab]
  rw [es]
  obtain ⟨i1, i2, i3⟩ := leaf_ok hw hi hp he hf' hl
  refine ⟨i1, i2, rfl, rfl, fun _ => rfl, fun q hq => ⟨fun hov => ?_, fun hov => ?_⟩⟩
  · have := i3 q hq
    rw [ho q] at hov
    have hpre := of_decide_eq_true hov
    rw [if_pos hpre] at this
    have hmq : mapAt s r q = some (findM s r p) := Wf.overMap hw hp hq hm (by rw [ho q]; exact hov) hw
    refine ⟨hmq, ?_, ?_⟩
    · unfold mapAt at hmq ⊢
      rw [this.2] at hmq
      rw [this.1]
      dsimp only at hmq ⊢
      rw [if_pos hl] at hmq
      rw [if_pos hl]
      injection hmq with hmq
      rw [← hmq]
      have hef2 : entFault (eOf s p t (3 - d)) (3 - d : Nat) = 0 := hef
      rw [leafMap_eq hq hf' hl (span_pow h3), leafMap_eq hq hef2 hl (span_pow h3)]
    · rw [this.1, this.2]
  · have := i3 q hq
    rw [ho q] at hov
    rw [if_neg (of_decide_eq_false hov)] at this
    exact this
end
end Go.Proofs.Ytegkimecdonfgaa
namespace Go.Proofs.Ytegkimecdonfgaa
open Go.RowKit
theorem check_has {a : Ac} (h : checkAccess a = 0) : hasB a.page = true := by
  unfold checkAccess at h
  unfold hasB
  split at h
  · cases h
  · split at h
    · cases h
    · simp; omega
theorem leafMap_mark {e : En} {l p : Int} (a : Ac) (hf : entFault e l = 0) (hl : e.leaf = true) : leafMap (markE e a) l p = leafMap e l p := by
  obtain ⟨h1, h2⟩ := mark_ok a hf hl
  unfold leafMap
  rw [h1, h2, hf, hl]
  rfl
theorem setW_same (s : Ms) (k i : Nat) : s.setW k i (s.wd k i) = s := by
  unfold Ms.setW
  obtain ⟨n, tk, wd, next, back⟩ := s
  dsimp only
  congr 1
  funext a b
  split
  · rename_i h; rw [h.1, h.2]
  · rfl
/-- The memory behind a walk that was done. -/
def sW (s : Ms) (y : Wy) (a : Ac) : Ms := s.setW (y.tabs.getLastD 0).toNat (index a.page y.lev).toNat (encW (markE y.e a) y.lev)
/-- Is it done? -/
def doneB (y : Wy) (a : Ac) : Bool := y.e.there && may y.e.rights a
def endS (s : Ms) (y : Wy) (a : Ac) : Ms := if doneB y a = true then sW s y a else s
def endR (y : Wy) (a : Ac) : Rs :=
  if y.e.there = false then ⟨true, ⟨1, 0, 0⟩, ⟨Mp.zero, false⟩⟩
  else if may y.e.rights a = false then ⟨true, ⟨2, 0, 0⟩, ⟨Mp.zero, false⟩⟩
  else ⟨true, answer (leafMap y.e y.lev a.page) a, ⟨leafMap y.e y.lev a.page, (markE y.e a).dirty⟩⟩
/-- How many steps it takes. -/
def cntW (y : Wy) (a : Ac) : Int := 4 - y.lev + (if doneB y a = true ∧ readyE y.e a = false then 1 else 0)
structure OnWay (s : Ms) (root : Int) (a : Ac) (i : Nat) (c : Ck) : Prop where
  on : c.on = true
  acc : c.a = a
  ok : c.Ok
  lev : ∃ L : Nat, c.level = L ∧ L ≤ 3 ∧ (∃ ac, way s root a.page = wayA s a.page L c.t ac) ∧ (c.mark = false → i + L = 3) ∧ (c.mark = true → i + L = 4 ∧ s.has c.t = true ∧ c.word s = c.w)
theorem OnWay.start (s : Ms) (root : Int) {a : Ac} {c : Ck} (hc : checkAccess a = 0) (hon : c.on = true) (ha : c.a = a) (ht : c.t = root) (hl : c.level = 3) (hm : c.mark = false) : OnWay s root a 0 c := by
  refine ⟨hon, ha, ⟨fun _ => (by rw [ha]; exact hc), fun _ => (by omega), fun _ => (by omega), fun h => (by rw [hon] at h; cases h), fun h => (by rw [hm] at h; cases h), fun h => (by rw [hm] at h; cases h), fun h => (by rw [hm] at h; cases h), fun h => (by rw [hm] at h; cases h)⟩, 3, by rw [hl]; rfl, Nat.le_refl _, ⟨[], ?_⟩, fun _ => rfl, fun h => (by rw [hm] at h; cases h)⟩
  unfold way
  rw [if_pos (check_has hc), ht]
/-- What a step of it comes to. -/
inductive WayStep (s : Ms) (root : Int) (a : Ac) (i : Nat) (c : Ck) (r : Sp) : Prop
  | bad (h : r.code ≠ 0) (hc : (way s root a.page).code = r.code) (hr : r.r = Rs.zero) (hs : r.s = s) (hk : r.c = c)
  | on (h : r.code = 0) (hr : r.r = Rs.zero) (hs : r.s = s) (hw : OnWay s root a (i + 1) r.c)
  | done (h : r.code = 0) (hc : (way s root a.page).code = 0) (hr : r.r = endR (way s root a.page) a) (hs : r.s = endS s (way s root a.page) a) (hi : ((i + 1 : Nat) : Int) = cntW (way s root a.page) a) (hw : r.c.on = false) (hk : r.c.Ok)
theorem OnWay.step {s : Ms} {root : Int} {a : Ac} {i : Nat} {c : Ck} (hw : OnWay s root a i c) : WayStep s root a i c (stepC s root c) := by
  obtain ⟨L, hL, hL3, ⟨ac, hway⟩, hm0, hm1⟩ := hw.lev
  have hon := hw.on
  have ha := hw.acc
  have hck := hw.ok.acc hon
  rw [ha] at hck
  have hp := check_has hck
  have hword : c.word s = wordV s c.t (index a.page L) := by unfold Ck.word; rw [ha, hL]
  have hok := hw.ok.step s root
  cases hmk : c.mark with
  | true =>
    obtain ⟨hi, hh, hcw⟩ := hm1 hmk
    have hd := hw.ok.dec hmk
    obtain ⟨hth, hlf⟩ := hw.ok.leaf hmk
    have hmay := hw.ok.may hmk
    have hnr := hw.ok.need hmk
    rw [← hcw, hword, hL] at hd hth hlf hmay hnr
    rw [ha] at hmay hnr
    have hY := wayA_end (acc := ac) hh hd (.inr hlf)
    rw [← hway] at hY
    unfold stepC at hok ⊢
    rw [if_neg (by rw [hon]; simp), if_neg (by rw [hh]; simp), if_neg (by rintro ⟨_, h⟩; exact h hcw), if_neg (by rw [hword, hL]; simp [hd]), if_neg (by rw [hword, hL, hth]; simp), if_neg (by rw [hword, hL, hlf]; simp), if_neg (by rw [hword, hL, ha, hmay]; simp), if_pos hmk] at hok ⊢
    have hf := (enc_dec hd).1
    have hdone : doneB (way s root a.page) a = true := by rw [hY]; unfold doneB; simp [hth, hmay]
    refine .done rfl (by rw [hY]) ?_ ?_ ?_ rfl hok
    · unfold Ck.leafEnd endR
      rw [hY]
      dsimp only
      rw [if_neg (by rw [hth]; simp), if_neg (by rw [hmay]; simp), ha, hL, hword, leafMap_mark a hf hlf]
    · unfold Ck.leafEnd endS
      rw [if_pos hdone]
      unfold sW
      rw [hY, ha, hL, hword]
      simp
    · unfold cntW
      rw [hdone, hY]
      dsimp only
      rw [if_pos ⟨rfl, hnr⟩]
      omega
  | false =>
    have hi := hm0 hmk
    unfold stepC at hok ⊢
    rw [if_neg (by rw [hon]; simp)] at hok ⊢
    cases hh : s.has c.t with
    | false =>
      rw [if_pos rfl]
      rw [wayA_free hh] at hway
      exact .bad (show (12 : Int) ≠ 0 by decide) (by rw [hway]; rfl) rfl rfl rfl
    | true =>
      rw [hh] at hok
      rw [if_neg (by simp), if_neg (by rintro ⟨h, _⟩; rw [hmk] at h; cases h)] at hok ⊢
      by_cases hd : decC (wordV s c.t (index a.page L)) L = 0
      · rw [if_neg (by rw [hword, hL]; simp [hd])] at hok ⊢
        have hf := (enc_dec hd).1
        cases hth : (decE (wordV s c.t (index a.page L)) L).there with
        | false =>
          rw [if_pos (by rw [hword, hL]; exact hth)] at hok ⊢
          rw [wayA_end hh hd (.inl hth)] at hway
          refine .done rfl (by rw [hway]) ?_ ?_ ?_ rfl hok
          · unfold Ck.endWith endR
            rw [hway]
            dsimp only
            rw [if_pos hth]
          · unfold Ck.endWith endS doneB
            rw [hway]
            dsimp only
            rw [hth]
            simp
          · unfold cntW doneB
            rw [hway]
            dsimp only
            rw [hth]
            simp
            omega
        | true =>
          rw [if_neg (by rw [hword, hL, hth]; simp)] at hok ⊢
          cases hlf : (decE (wordV s c.t (index a.page L)) L).leaf with
          | false =>
            rw [if_pos (by rw [hword, hL]; exact hlf)] at hok ⊢
            obtain ⟨K, hK, hY⟩ := wayA_on (acc := ac) hh hd (by rw [hth, hlf]; simp)
            subst hK
            refine .on rfl rfl rfl ⟨hon, ha, hok, K, ?_, by omega, ⟨ac ++ [c.t], ?_⟩, fun _ => by omega, fun h => by rw [show c.mark = true from h] at hmk; cases hmk⟩
            · show c.level - 1 = _
              omega
            · rw [hway, hY]
              show _ = wayA s a.page K (decE (c.word s) c.level).frame _
              rw [hword, hL]
          | true =>
            rw [if_neg (by rw [hword, hL, hlf]; simp)] at hok ⊢
            rw [wayA_end hh hd (.inr hlf)] at hway
            cases hmay : may (decE (wordV s c.t (index a.page L)) L).rights a with
            | false =>
              rw [if_pos (by rw [hword, hL, ha]; exact hmay)] at hok ⊢
              refine .done rfl (by rw [hway]) ?_ ?_ ?_ rfl hok
              · unfold Ck.endWith endR
                rw [hway]
                dsimp only
                rw [if_neg (by rw [hth]; simp), if_pos hmay]
              · unfold Ck.endWith endS doneB
                rw [hway]
                dsimp only
                rw [hth, hmay]
                simp
              · unfold cntW doneB
                rw [hway]
                dsimp only
                rw [hth, hmay]
                simp
                omega
            | true =>
              rw [if_neg (by rw [hword, hL, ha, hmay]; simp), if_neg (by rw [hmk]; simp)] at hok ⊢
              have hdone : doneB (way s root a.page) a = true := by rw [hway]; unfold doneB; simp [hth, hmay]
              cases hr : readyE (decE (wordV s c.t (index a.page L)) L) a with
              | true =>
                rw [if_pos (by rw [hword, hL, ha]; exact hr)] at hok ⊢
                have hme := (mark_ready _ a).2 hr
                refine .done rfl (by rw [hway]) ?_ ?_ ?_ rfl hok
                · unfold Ck.leafEnd endR
                  rw [hway]
                  dsimp only
                  rw [if_neg (by rw [hth]; simp), if_neg (by rw [hmay]; simp), ha, hL, hword, hme]
                · unfold Ck.leafEnd endS
                  rw [if_pos hdone]
                  unfold sW
                  rw [hway]
                  dsimp only
                  rw [hme, (enc_dec hd).2]
                  have hg : (ac ++ [c.t]).getLastD 0 = c.t := by simp
                  rw [hg]
                  exact (setW_same s _ _).symm
                · unfold cntW
                  rw [hdone, hway]
                  dsimp only
                  rw [hr]
                  simp
                  omega
              | false =>
                rw [if_neg (by rw [hword, hL, ha, hr]; simp)] at hok ⊢
                refine .on rfl rfl rfl ⟨hon, ha, hok, L, hL, hL3, ⟨ac, ?_⟩, fun h => (by cases h), fun _ => ⟨by omega, hh, rfl⟩⟩
                rw [hway]
                exact (wayA_end hh hd (.inr hlf)).symm
      · rw [if_pos (by rw [hword, hL]; exact hd)]
        rw [wayA_bad hh hd] at hway
        exact .bad (by rw [hword, hL]; exact hd) (by rw [hway, hword, hL]; rfl) rfl rfl rfl
theorem encW_u64 (e : En) (l : Int) : 0 ≤ encW e l ∧ encW e l < 18446744073709551616 := by
  unfold encW
  split
  · rename_i h
    obtain ⟨_, a, b⟩ := wordE_ne (entOk_of h.1 h.2)
    omega
  · omega
end Go.Proofs.Ytegkimecdonfgaa
namespace Go.Proofs.Ytegkimecdonfgaa
open Go.RowKit
set_option maxRecDepth 100000
end Go.Proofs.Ytegkimecdonfgaa
namespace Go.Proofs.Ytegkimecdonfgaa
open Go.RowKit
set_option maxRecDepth 100000
end Go.Proofs.Ytegkimecdonfgaa
namespace Go.Proofs.Ytegkimecdonfgaa
open Go.RowKit
set_option maxRecDepth 100000
theorem fail_no (c : Int) (w : World) : Calls Try.prog 141 #[.bool false, .int .i64 c] w (Same (.tuple #[]) w) := by
  go_enter Try.func141, Try.ntmps141
  go_wp2
  go_end0
  exact ⟨rfl, rfl⟩
/-- It panics with a code; the world is the very same. -/
def Dies (c : Int) (w : World) (e : Ending) (w' : World) : Prop := e = .panicked [{ v := .iface 202 ((Value.int .i64) c), recovered := false }] ∧ w = w'
theorem fail_yes (c : Int) (w : World) : Calls Try.prog 141 #[.bool true, .int .i64 c] w (Dies c w) := by
  go_enter Try.func141, Try.ntmps141
  go_wp2
  exact ⟨rfl, rfl, rfl⟩
theorem size_any (l : Int) (w : World) : Calls Try.prog 102 #[.int .i64 l] w (Same ((Value.int .i64) l) w) := by
  go_enter Try.func102, Try.ntmps102
  go_wp2
  go_ret
  exact ⟨rfl, rfl⟩
theorem bit_any (b : Bool) (n : Int) (w : World) : Calls Try.prog 101 #[.bool b, .int .u64 n] w (Same ((Value.int .u64) (b2i b n)) w) := by
  cases b with
  | true =>
    go_enter Try.func101, Try.ntmps101
    go_wp2
    go_ret
    exact ⟨rfl, rfl⟩
  | false =>
    go_enter Try.func101, Try.ntmps101
    go_wp2
    go_ret
    exact ⟨rfl, rfl⟩
theorem assertFault (c : Int) (w : World) : (Instr.typeAssert (.iface 202 ((Value.int .i64) c)) 20 202 true).run Try.prog w = .ok (.tuple #[(Value.int .i64) c, Value.bool true]) w := by kernel_rfl
theorem caught1_panic (p : Addr) (x c : Int) (older : List PanicEntry) (w : World) (hc : w.cell? p = some ((Value.int .i64) x)) (hz : w.frozen? p = false) :
    CallsD Try.prog 140 #[.pointer (some p)] (.panicking ({ v := .iface 202 ((Value.int .i64) c), recovered := false } :: older)) w fun e u' w' =>
      e = .returned (.tuple #[]) ∧ u' = .panicking ({ v := .iface 202 ((Value.int .i64) c), recovered := true } :: older) ∧ w' = w.setCell p ((Value.int .i64) c) := by
  have hta := assertFault c
  refine callsD_of_wpS Try.func140 rfl fun c₀ cs hu => ?_
  apply wpS_seq
  apply wpS_region
  simp [wpOpsS, go_sem, recoverD, hu, Try.ntmps140, Exit.thenS]
  apply wpS_seq
  apply wpS_region
  simp [wpOpsS, go_sem, Exit.thenS]
  refine wpS_cond (t := true) (by simp [Act.eval, Array.replicate]) ?_
  simp only [if_true]
  apply wpS_seq
  apply wpS_region
  simp [wpOpsS, go_sem, Exit.thenS, hta]
  apply wpS_seq
  apply wpS_seq
  apply wpS_region
  simp [wpOpsS, go_sem, Exit.thenS]
  refine wpS_cond (t := false) (by simp [Act.eval, Array.replicate]) ?_
  simp only [Bool.false_eq_true, if_false]
  refine wpS_of_wp (wp_skip ?_)
  simp only [Exit.thenS]
  apply wpS_region
  simp [wpOpsS, go_sem, hc, hz, bodyPostS, results, Try.results140]
theorem caught1_idle (p : Addr) (w : World) :
    CallsD Try.prog 140 #[.pointer (some p)] .returning w fun e u' w' => e = .returned (.tuple #[]) ∧ u' = .returning ∧ w' = w := by
  refine callsD_of_wpS Try.func140 rfl fun c₀ cs hu => ?_
  apply wpS_seq
  apply wpS_region
  simp [wpOpsS, go_sem, recoverD, hu, Try.ntmps140, Exit.thenS]
  apply wpS_seq
  apply wpS_region
  simp [wpOpsS, go_sem, Exit.thenS]
  refine wpS_cond (t := false) (by simp [Act.eval, Array.replicate]) ?_
  simp only [Bool.false_eq_true, if_false]
  refine wpS_of_wp (wp_skip ?_)
  cases c₀
  simp_all [bodyPostS, results, Try.results140]
end Go.Proofs.Ytegkimecdonfgaa
