/- Slices of the call's own that may begin further behind in their block: read, appended to. Plain lemmas. -/
import Derived.Test.YtndhgomikpokpaaRows3
namespace Go.Proofs.Ytndhgomikpokpaa
open Go.RowKit

/-- The slice value v, of n elements of type e (size cells each), nil or somewhere in a block of its own, whose cells are xs. -/
def rowO (e size : Nat) (v : Value) (n : Nat) (xs : List Value) : HProp := fun h =>
  xs.length = n * size ∧
  ((v = .slice none 0 0 ∧ n = 0 ∧ h = Hpm.emp) ∨
   ∃ g off cap cur, v = .slice (some ⟨g, off, none⟩) n cap ∧ n ≤ cap ∧ cap ≤ maxLen ∧ off + cap * size ≤ cur.size ∧ (cur.toList.drop off).take (n * size) = xs ∧ blk g cur e h)
section
variable {w : World} {R : HProp} {e size : Nat} {v : Value} {A : Option Addr} {n c : Nat} {xs : List Value}
theorem Has.rowO (h : Has w (row e size v n xs * R)) : Has w (rowO e size v n xs * R) :=
  h.imp_left fun _ ⟨hl, hx⟩ => ⟨hl, hx.imp id fun ⟨g, cap, cur, h1, h2, h3, h4, h5, h6⟩ => ⟨g, 0, cap, cur, h1, h2, h3, by omega, by simpa using h5, h6⟩⟩
theorem Has.rowOCases (h : Has w (Go.Proofs.Ytndhgomikpokpaa.rowO e size v n xs * R)) :
    (v = .slice none 0 0 ∧ n = 0 ∧ xs = [] ∧ Has w R) ∨
    ∃ g off cap cur, v = .slice (some ⟨g, off, none⟩) n cap ∧ n ≤ cap ∧ cap ≤ maxLen ∧ off + cap * size ≤ cur.size ∧ (cur.toList.drop off).take (n * size) = xs ∧ Has w (blk g cur e * R) := by
  have hr := h.right
  obtain ⟨_, s, h1, h2, d, rfl, ⟨hl, h0 | ⟨g, off, cap, cur, rfl, hn, hc, hs, ht, hb⟩⟩, q⟩ := h
  · obtain ⟨rfl, rfl, rfl⟩ := h0
    exact .inl ⟨rfl, rfl, by simpa using hl, hr⟩
  · exact .inr ⟨g, off, cap, cur, rfl, hn, hc, hs, ht, _, s, h1, h2, d, rfl, hb, q⟩
theorem Has.rowOLen (h : Has w (Go.Proofs.Ytndhgomikpokpaa.rowO e size v n xs * R)) : xs.length = n * size := by
  obtain ⟨_, s, h1, h2, d, rfl, ⟨hl, _⟩, q⟩ := h
  exact hl
theorem Has.rowOForm (h : Has w (Go.Proofs.Ytndhgomikpokpaa.rowO e size v n xs * R)) : ∃ A c, v = .slice A n c := by
  rcases h.rowOCases with ⟨rfl, rfl, _, _⟩ | ⟨g, off, cap, cur, rfl, _⟩
  · exact ⟨_, _, rfl⟩
  · exact ⟨_, _, rfl⟩
theorem Has.rowOSmall (h : Has w (Go.Proofs.Ytndhgomikpokpaa.rowO e size (.slice A n c) n xs * R)) : n ≤ 9223372036854775807 ∧ n ≤ c := by
  rcases h.rowOCases with ⟨hv, rfl, _, _⟩ | ⟨g, off, cap, cur, hv, h1, h2, _⟩
  · omega
  · injection hv with a b d
    unfold maxLen at h2
    omega
theorem Has.rowONil (h : Has w R) : Has w (Go.Proofs.Ytndhgomikpokpaa.rowO e size (.slice none 0 0) 0 [] * R) := (Has.rowNil h).rowO
/-- One cell of it. -/
theorem Has.rowOGet (h : Has w (Go.Proofs.Ytndhgomikpokpaa.rowO e size (.slice A n c) n xs * R)) {i : Nat} {u : Value} (hu : xs[i]? = some u) :
    ∃ g off, A = some ⟨g, off, none⟩ ∧ g < w.heap.size ∧ w.cell? ⟨g, off + i, none⟩ = some u := by
  have hi : i < xs.length := (List.getElem?_eq_some_iff.1 hu).1
  have hl := h.rowOLen
  rcases h.rowOCases with ⟨hv, rfl, hx, _⟩ | ⟨g, off, cap, cur, hv, h1, h2, h3, h4, hb⟩
  · rw [hx] at hi; simp at hi
  · injection hv with a b d
    refine ⟨g, off, a, hb.lt, ?_⟩
    rw [hb.cell, ← hu, ← h4, List.getElem?_take, if_pos (by omega), List.getElem?_drop]
    simp
/-- Its elements but the first. -/
theorem Has.rowOTail {g off : Nat} (h : Has w (Go.Proofs.Ytndhgomikpokpaa.rowO e size (.slice (some ⟨g, off, none⟩) (n + 1) c) (n + 1) xs * R)) :
    Has w (Go.Proofs.Ytndhgomikpokpaa.rowO e size (.slice (if c = 1 then some ⟨g, off, none⟩ else some ⟨g, off + size, none⟩) n (c - 1)) n (xs.drop size) * R) := by
  have hl := h.rowOLen
  rcases h.rowOCases with ⟨hv, h0, _, _⟩ | ⟨g', off', cap, cur, hv, h1, h2, h3, h4, hb⟩
  · injection hv with a; cases a
  · injection hv with a b d
    injection a with a
    injection a with a1 a2
    subst a1; subst a2; subst d
    have hm : (n + 1) * size = n * size + size := by rw [Nat.succ_mul]
    refine hb.imp_left fun _ hb => ⟨?_, .inr ?_⟩
    · rw [List.length_drop, hl, hm]; omega
    · have hx : xs.drop size = (cur.toList.drop (off + size)).take (n * size) := by
        rw [← h4, List.drop_take, List.drop_drop, hm, Nat.add_sub_cancel]
      obtain ⟨c', rfl⟩ : ∃ c', c = c' + 1 := ⟨c - 1, by omega⟩
      have hm' : (c' + 1) * size = c' * size + size := by rw [Nat.succ_mul]
      by_cases hc : c' + 1 = 1
      · have hn : n = 0 := by omega
        subst hn
        rw [if_pos hc]
        refine ⟨g, off, _, cur, rfl, by omega, by omega, ?_, by simp [hx], hb⟩
        have : c' = 0 := by omega
        subst this
        omega
      · rw [if_neg hc]
        exact ⟨g, off + size, _, cur, rfl, by omega, by omega, by rw [Nat.add_sub_cancel]; omega, hx.symm, hb⟩
end

/-- Behind append where there is room. -/
theorem Has.rowORoom {w : World} {R : HProp} {e size g off n m c : Nat} {xs : List Value} (h : Has w (Go.Proofs.Ytndhgomikpokpaa.rowO e size (.slice (some ⟨g, off, none⟩) n c) n xs * R)) (news : List Value) (hl : news.length = m * size) (hm : n + m ≤ c) :
    Has (w.setCells g (off + n * size) news) (Go.Proofs.Ytndhgomikpokpaa.rowO e size (.slice (some ⟨g, off, none⟩) (n + m) c) (n + m) (xs ++ news) * R) := by
  have hxl := h.rowOLen
  rcases h.rowOCases with ⟨hv, h0, _, _⟩ | ⟨g', off', cap, cur, hv, h1, h2, h3, h4, hb⟩
  · injection hv with a; cases a
  · injection hv with a b d
    injection a with a
    injection a with a1 a2
    subst a1; subst a2; subst d
    have hmul : (n + m) * size = n * size + m * size := Nat.add_mul _ _ _
    have hcm : (n + m) * size ≤ c * size := Nat.mul_le_mul_right _ hm
    -- the block behind the stores
    have key : ∀ (vs : List Value) (o : Nat) (w : World) (cur : Array Value), Has w (blk g cur e * R) → o + vs.length ≤ cur.size →
        ∃ cur', cur'.size = cur.size ∧ cur'.toList = cur.toList.take o ++ (vs ++ cur.toList.drop (o + vs.length)) ∧ Has (w.setCells g o vs) (blk g cur' e * R) := by
      intro vs
      induction vs with
      | nil => exact fun o w cur hw _ => ⟨cur, rfl, by simp, hw⟩
      | cons v r ih =>
        intro o w cur hw ho
        simp only [List.length_cons] at ho
        obtain ⟨cur', hs, ht, hw'⟩ := ih (o + 1) _ _ (hw.set o v) (by simp; omega)
        refine ⟨cur', by rw [hs]; simp, ?_, hw'⟩
        rw [ht, Array.toList_setIfInBounds, List.drop_set_of_lt (by omega), List.take_succ_eq_append_getElem (by simp; omega), List.getElem_set_self, List.take_set_of_le (Nat.le_refl o), List.append_assoc]
        simp only [List.length_cons, List.cons_append, List.nil_append]
        rw [show o + 1 + r.length = o + (r.length + 1) by omega]
    obtain ⟨cur', hs, ht, hw'⟩ := key news (off + n * size) w cur hb (by rw [hl]; omega)
    refine hw'.imp_left fun _ hb => ⟨by rw [List.length_append, hxl, hl, hmul], .inr ⟨g, off, c, cur', rfl, hm, h2, by omega, ?_, hb⟩⟩
    have hcs : cur.toList.length = cur.size := Array.length_toList
    have e1 : (cur'.toList.drop off).take (n * size) = xs := by
      rw [ht, List.drop_append_of_le_length (by rw [List.length_take]; omega), List.take_append_of_le_length (by rw [List.length_drop, List.length_take]; omega), List.drop_take, ← h4, List.take_take]
      congr 1
      omega
    rw [hmul, List.take_add, e1, List.drop_drop, ht, List.drop_append, List.drop_eq_nil_of_le (by rw [List.length_take]; omega), List.nil_append, List.length_take, show off + n * size - min (off + n * size) cur.toList.length = 0 by omega, List.drop_zero,
      List.take_append_of_le_length (by omega), List.take_of_length_le (by omega)]

section
variable {P : Program} {w : World} {R : HProp}
theorem run_append_hasO {t ty e : TypeId} {z : Value} {size bytes : Nat} (hT : P.underlying t = some (.slice e)) (hE : Elem P e z size bytes)
    (v : Value) (n : Nat) (xs : List Value) (h : Has w (rowO e size v n xs * R))
    (ad : Addr) (m c : Nat) (news : List Value) (hl : news.length = m * size) (hnews : ∀ j u, news[j]? = some u → w.cell? (ad.add j) = some u) (h1 : ∀ u ∈ news, u.oneCell' = true)
    (h63 : n + m ≤ maxLen) (hbytes : (n + m) * bytes ≤ 140737488355328) :
    ∃ A c' w', (Builtin.append_ #[t, t] ty #[v, .slice (some ad) m c]).run P w = .ok (.slice A (n + m) c') w' ∧ Has w' (rowO e size (.slice A (n + m) c') (n + m) (xs ++ news) * R) ∧ Ext w w' := by
  obtain ⟨i, hi, hz, hs, hb⟩ := info_parts hE.info
  have grown : ∀ {v' w'}, w'.ownsRow w.heap.size e size v' (n + m) (xs ++ news) → w.grownBy w' none → ∃ A c', v' = .slice A (n + m) c' ∧ Has w' (rowO e size (.slice A (n + m) c') (n + m) (xs ++ news) * R) ∧ Ext w w' := by
    intro v' w' r1 r2
    have hge : ∀ k, v'.ownBlock = some k → w.heap.size ≤ k := by
      intro k hk
      rcases r1.2 with ⟨rfl, _⟩ | ⟨g, cap, cur, rfl, hg, _⟩
      · simp [Value.ownBlock] at hk
      · simp [Value.ownBlock] at hk; omega
    have h2 := (Has.rowNil (e := e) (size := size) h.right).rowGrown r1 r2 (.inr hge)
    obtain ⟨A, c', rfl⟩ : ∃ A c', v' = .slice A (n + m) c' := by
      rcases h2.rowCases with ⟨hv, hn, _, _⟩ | ⟨g, cap, cur, hv, _⟩
      · exact ⟨none, 0, by rw [hv, hn]⟩
      · exact ⟨_, _, hv⟩
    exact ⟨A, c', rfl, h2.rowO, (Ext.refl w).grown r2⟩
  rcases h.rowOCases with ⟨rfl, rfl, rfl, hR⟩ | ⟨g, off, cap, cur, rfl, hn, hc, hsz, ht, hB⟩
  · obtain ⟨v', w', hrun, r1, r2, _⟩ := run_append_own (P := P) w w.heap.size t ty e i z size bytes hT hi hz hs hb hE.cells hE.pos (.slice none 0 0) 0 [] (World.ownsRow_nil w _ e size) ad m c news hl hnews h1 h63 hbytes (Nat.le_refl _)
    obtain ⟨A, c', rfl, h2, h3⟩ := grown r1 r2
    exact ⟨A, c', w', hrun, h2, h3⟩
  · have hxl := h.rowOLen
    have hget : ∀ j u, xs[j]? = some u → w.cell? ⟨g, off + j, none⟩ = some u := fun j u hu => by
      obtain ⟨g', off', hA, _, hc⟩ := h.rowOGet hu
      injection hA with hA
      injection hA with a1 a2
      subst a1; subst a2
      exact hc
    by_cases hroom : n + m ≤ cap
    · have hcm : (n + m) * size ≤ cap * size := Nat.mul_le_mul_right _ hroom
      have hmul : (n + m) * size = n * size + m * size := Nat.add_mul _ _ _
      have hrun := run_append_room_cells (P := P) w t ty e i hT hi g off n cap ad m c news (by rw [hs]; exact hl) hnews h1 hroom
        (fun j hj => by rw [hs, hB.cell, Array.getElem?_eq_getElem (by omega)]; rfl) (fun j _ => hB.free _)
      rw [hs] at hrun
      refine ⟨_, _, _, hrun, h.rowORoom news hl hroom, ?_⟩
      have : ∀ (vs : List Value) (o : Nat) {w' : World}, Ext w w' → Ext w (w'.setCells g o vs) := by
        intro vs
        induction vs with
        | nil => exact fun _ _ h => h
        | cons v r ih => exact fun o _ h => ih (o + 1) (h.set _ _)
      exact this _ _ (Ext.refl w)
    · obtain ⟨v', w', hrun, r1, r2⟩ := run_append_arg_grows (P := P) w t ty e i z size bytes hT hi hz hs hb hE.cells hE.pos ⟨g, off, none⟩ n cap xs hxl (fun j u hj => by rw [Addr.add_lit]; exact hget j u hj) ad m c news hl hnews (by omega) h63 hbytes
      obtain ⟨A, c', rfl, h2, h3⟩ := grown r1 r2
      exact ⟨A, c', w', hrun, h2, h3⟩

theorem step_append_hasO {ops : Array Oper} {o : Oper} {a : Act} {K : Act → World → Prop} {Q : Exit → Act → World → Prop} {E : Prop}
    (hg : o.guard = none) (s x : Operand) (t : TypeId) (hop : o.op = Op.call { callee := Callee.builtin Builtin.append, args := #[s, x], argTypes := #[t, t] })
    {e : TypeId} {z : Value} {size bytes : Nat} (hT : P.underlying t = some (.slice e)) (hE : Elem P e z size bytes)
    (v : Value) (n : Nat) (xs : List Value) (hs : a.eval s = v) (h : Has w (rowO e size v n xs * R))
    (ad : Addr) (m c : Nat) (news : List Value) (hx : a.eval x = .slice (some ad) m c) (hl : news.length = m * size) (hnews : ∀ j u, news[j]? = some u → w.cell? (ad.add j) = some u) (h1 : ∀ u ∈ news, u.oneCell' = true)
    (h63 : n + m ≤ maxLen) (hbytes : (n + m) * bytes ≤ 140737488355328)
    (hK : ∀ A c w', Has w' (rowO e size (.slice A (n + m) c) (n + m) (xs ++ news) * R) → Ext w w' → K (a.put o.dst (.slice A (n + m) c)) w') :
    if Region.wanted o (yielded ops a.tmps) = true then Oper.wp P o a w K Q else E := by
  have hw : Region.wanted o (yielded ops a.tmps) = true := by simp [Region.wanted, hg]
  rw [if_pos hw]
  obtain ⟨A, c', w', hrun, h2, h3⟩ := run_append_hasO (ty := o.type) hT hE v n xs h ad m c news hl hnews h1 h63 hbytes
  unfold Oper.wp
  simp [execOp, hop, resolve, invoke, builtin, hs, hx, hrun, Result.andThen]
  exact hK A c' w' h2 h3
theorem wpList_append_hasO {ops : Array Oper} {rest : List Oper} {o : Oper} {a : Act} {Q : Exit → Act → World → Prop} (hgd : o.guard = none) (s x : Operand) (t : TypeId)
    (ho : o.op = .call { callee := .builtin .append, args := #[s, x], argTypes := #[t, t] }) {e : TypeId} {z : Value} {size bytes : Nat} (hT : P.underlying t = some (.slice e)) (hE : Elem P e z size bytes)
    (v : Value) (n : Nat) (xs : List Value) (hs : a.eval s = v) (h : Has w (rowO e size v n xs * R))
    (ad : Addr) (m c : Nat) (news : List Value) (hx : a.eval x = .slice (some ad) m c) (hl : news.length = m * size) (hnews : ∀ j u, news[j]? = some u → w.cell? (ad.add j) = some u) (h1 : ∀ u ∈ news, u.oneCell' = true)
    (h63 : n + m ≤ maxLen) (hbytes : (n + m) * bytes ≤ 140737488355328)
    (hk : ∀ A c w', Has w' (rowO e size (.slice A (n + m) c) (n + m) (xs ++ news) * R) → Ext w w' → wpList P ops Q rest (a.put o.dst (.slice A (n + m) c)) w') : wpList P ops Q (o :: rest) a w :=
  wpList_plain hgd fun _ hK => by
    obtain ⟨A, c', w', hr, h2, h3⟩ := run_append_hasO (ty := o.type) hT hE v n xs h ad m c news hl hnews h1 h63 hbytes
    unfold Oper.wp execOp
    simp only [ho, resolve, invoke, builtin, Sem.run_bind, Sem.run_pure, Result.andThen_ok, List.map_toArray, List.map_cons, List.map_nil, hs, hx, hr]
    exact hK _ _ (hk A c' w' h2 h3)
end
end Go.Proofs.Ytndhgomikpokpaa
