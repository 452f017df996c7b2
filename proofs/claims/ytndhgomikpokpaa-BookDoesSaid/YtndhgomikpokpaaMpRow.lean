/- Rows of mappings; append of a row onto a row; SameMaps. -/
import Derived.Test.YtndhgomikpokpaaRows3
import Derived.Test.YtndhgomikpokpaaModel
import Derived.Test.YtndhgomikpokpaaEq
import Derived.Lib.Hide
import Derived.Lib.SliceRun
import Derived.Laws.OwnMore
import Derived.Outline
import Derived.BigQuiet
import Derived.Deep.LoopGhost
import Derived.Shelf.Abstract
namespace Go.Proofs.Ytndhgomikpokpaa
open Go.RowKit
set_option maxRecDepth 100000

def mpZero : Value := .agg #[(Value.int .i64) 0, (Value.int .i64) 0, (Value.int .i64) 0, (Value.int .i64) 0]
theorem elemMp : Elem Try.prog 27 mpZero 4 32 := ⟨by kernel_rfl, rfl, by omega⟩
theorem mp_len (x : Mp) : x.cells.length = 4 := rfl
/-- Cells of many mappings. -/
def mcells (l : List Mp) : List Value := flat Mp.cells l
theorem mcells_len (l : List Mp) : (mcells l).length = l.length * 4 := flat_len mp_len l
theorem mcells_snoc (l : List Mp) (m : Mp) : mcells (l ++ [m]) = mcells l ++ m.cells := by unfold mcells; rw [flat_append]; simp [flat]
/-- A row of mappings. -/
def mrow (v : Value) (l : List Mp) : HProp := row 27 4 v l.length (mcells l)
theorem oneMp (x : Mp) : ∀ u ∈ x.cells, u.oneCell' = true := by
  intro u hx
  simp [Mp.cells] at hx
  rcases hx with rfl | rfl | rfl | rfl <;> rfl
/-- A row of one's own onto another. -/
theorem wpList_append_row {P : Program} {w : World} {R : HProp} {ops : Array Oper} {rest : List Oper} {o : Oper} {a : Act} {Q : Exit → Act → World → Prop} (hgd : o.guard = none) (s x : Operand) (t : TypeId)
    (ho : o.op = .call { callee := .builtin .append, args := #[s, x], argTypes := #[t, t] }) {e : TypeId} {z : Value} {size bytes : Nat} (hT : P.underlying t = some (.slice e)) (hE : Elem P e z size bytes)
    (v : Value) (n : Nat) (xs : List Value) (hs : a.eval s = v) (u : Value) (m : Nat) (ys : List Value) (hx : a.eval x = u) (h : Has w (row e size v n xs * (row e size u m ys * R))) (h1 : ∀ y ∈ ys, y.oneCell' = true)
    (h63 : n + m ≤ maxLen) (hbytes : (n + m) * bytes ≤ 140737488355328)
    (hk : ∀ A c w', Has w' (row e size (.slice A (n + m) c) (n + m) (xs ++ ys) * (row e size u m ys * R)) → Ext w w' → wpList P ops Q rest (a.put o.dst (.slice A (n + m) c)) w') : wpList P ops Q (o :: rest) a w := by
  rcases h.p2.rowCases with ⟨rfl, rfl, rfl, _⟩ | ⟨g, cap, cur, rfl, _⟩
  · obtain ⟨i, hi, _, hsz, _⟩ := info_parts hE.info
    obtain ⟨A, c, rfl⟩ := h.rowForm
    refine wpList_plain hgd fun _ hK => ?_
    have hrun := run_append_owned_none (P := P) (w := w) 0 t o.type e i size hT hi (.slice A n c) n xs h.ownsRow
    unfold Oper.wp
    simp [execOp, ho, resolve, invoke, builtin, hs, hx, hrun, Result.andThen]
    exact hK _ _ (hk A c w (by simpa using h) (Ext.refl w))
  · have hget := fun j y (hy : ys[j]? = some y) => h.p2.rowGet hy
    have hl := h.p2.rowLens.1
    refine wpList_append_has hgd s x t ho hT hE v n xs hs h ⟨g, 0, none⟩ m cap ys hx hl (fun j y hy => ?_) h1 h63 hbytes fun v' w' h2 x2 => ?_
    · obtain ⟨g', hg', _, hc, _⟩ := hget j y hy
      injection hg' with hg'
      injection hg' with hg'
      subst hg'
      rw [Addr.add_lit, Nat.zero_add]
      exact hc
    · have hf : ∃ A c, v' = .slice A (n + m) c := by
        rcases h2.rowCases with ⟨hv, hn, _, _⟩ | ⟨g, cap, cur, hv, _⟩
        · exact ⟨none, 0, by rw [hv, hn]⟩
        · exact ⟨_, _, hv⟩
      obtain ⟨A, c, rfl⟩ := hf
      exact hk A c w' h2 x2
theorem mcells_one (l : List Mp) : ∀ u ∈ mcells l, u.oneCell' = true := by
  intro u hu
  unfold mcells flat at hu
  obtain ⟨x, _, hx⟩ := List.mem_flatMap.1 hu
  exact oneMp x u hx
theorem mcells_append (a b : List Mp) : mcells (a ++ b) = mcells a ++ mcells b := flat_append a b

theorem mrow_len {w : World} {R : HProp} {A : Option Addr} {n c : Nat} {l : List Mp} (h : Has w (mrow (.slice A n c) l * R)) : n = l.length := by
  rcases (Has.rowCases (e := 27) (size := 4) h) with ⟨hv, h0, _⟩ | ⟨g, cap, cur, hv, _⟩
  · injection hv with a b
    omega
  · injection hv
theorem mrow_small {w : World} {R : HProp} {A : Option Addr} {n c : Nat} {l : List Mp} (h : Has w (mrow (.slice A n c) l * R)) : n ≤ 9223372036854775807 := by
  obtain rfl := mrow_len h
  exact (Has.rowLens (e := 27) (size := 4) h).2
theorem mrow_at {w : World} {R : HProp} {A : Option Addr} {n c : Nat} {l : List Mp} (h : Has w (mrow (.slice A n c) l * R)) {k : Nat} (hk : k < l.length) :
    ∃ b, A = some ⟨b, 0, none⟩ ∧ b < w.heap.size ∧
      (w.cell? ⟨b, k * 4, none⟩ = some ((Value.int .i64) l[k].page) ∧ w.cell? ⟨b, k * 4 + 1, none⟩ = some ((Value.int .i64) l[k].size) ∧ w.cell? ⟨b, k * 4 + 2, none⟩ = some ((Value.int .i64) l[k].frame) ∧ w.cell? ⟨b, k * 4 + 3, none⟩ = some ((Value.int .i64) l[k].rights)) := by
  obtain rfl := mrow_len h
  have g := fun t (ht : t < 4) => Has.rowGet (e := 27) (size := 4) h (i := k * 4 + t) (u := (l[k].cells[t]'(by rw [mp_len]; exact ht))) (by
    have := flat_get (cells := Mp.cells) mp_len hk ht
    rw [List.getElem?_eq_getElem (l := l[k].cells) (by rw [mp_len]; exact ht)] at this
    exact this)
  obtain ⟨b, rfl, hb, c0, _⟩ := g 0 (by omega)
  obtain ⟨b1, e1, _, c1, _⟩ := g 1 (by omega)
  obtain ⟨b2, e2, _, c2, _⟩ := g 2 (by omega)
  obtain ⟨b3, e3, _, c3, _⟩ := g 3 (by omega)
  injection e1 with e1; injection e1 with e1; subst e1
  injection e2 with e2; injection e2 with e2; subst e2
  injection e3 with e3; injection e3 with e3; subst e3
  exact ⟨b, rfl, hb, c0, c1, c2, c3⟩
theorem sameMaps_any (l : List Mp) (A B : Option Addr) (n c n' c' : Nat) (R : HProp) (w : World) (h : Has w (mrow (.slice A n c) l * (mrow (.slice B n' c') l * R))) :
    Calls Try.prog 20 #[.slice A n c, .slice B n' c'] w (Pure (Value.bool true) w) := by
  have hn := mrow_len h
  have hn' := mrow_len h.right
  subst hn
  subst hn'
  have hbig := mrow_small h
  go_enter Try.func20, Try.ntmps20
  go_wp2_with fail
  go_loopw [5] (fun s5 wr => ∃ i : Nat, i ≤ l.length ∧ s5 = (Value.int .i64) i ∧ Below w.heap.size w wr) (fun s5 _ => l.length - (intOf s5).toNat)
  case atStart => exact ⟨0, Nat.zero_le _, rfl, Below.refl _ _⟩
  case round =>
    obtain ⟨i, hi, rfl, BW⟩ := hrel
    have h' := h.below BW
    clear h
    have BW' := Lib.hid BW
    clear BW
    by_cases hlt : i < l.length
    · obtain ⟨b, rfl, hb, c0, c1, c2, c3⟩ := mrow_at h' hlt
      obtain ⟨b', rfl, hb', d0, d1, d2, d3⟩ := mrow_at h'.right hlt
      clear h'
      generalize l[i] = x at c0 c1 c2 c3 d0 d1 d2 d3
      have v0 := via_cell c0
      have v1 := via_cell c1
      have v2 := via_cell c2
      have v3 := via_cell c3
      have u0 := via_cell d0
      have u1 := via_cell d1
      have u2 := via_cell d2
      have u3 := via_cell d3
      clear c0 c1 c2 c3 d0 d1 d2 d3
      go_wp2_with fail
      refine wp_region_via (by kernel_rfl) (by kernel_rfl) ?_
      repeat (first | go_big_quiet_step (fail) | quiet_step (fail))
      refine wpQuiet_nil ?_
      intro _ hw'
      obtain ⟨uq, hw''⟩ := hw'
      subst hw''
      go_wp2_with fail
      go_roundw
      case rel => exact ⟨i + 1, by omega, by go_num, BW'.out.trans ((via_below _ _).mono BW'.out.size)⟩
      case measure => simp [intOf]; omega
    · go_wp2_with fail
      go_ret
      exact ⟨rfl, BW'.out⟩
end Go.Proofs.Ytndhgomikpokpaa
