/- Contracts of package slices at lines: IndexFunc, DeleteFunc, Delete, Clone. -/
import Derived.Test.YtacnjjjdkpbeaaaRows3
import Derived.Test.YtacnjjjdkpbeaaaTlbM2
import Derived.Test.YtacnjjjdkpbeaaaEq
import Derived.Lib.Hide
import Derived.Lib.SliceRun
import Derived.Outline
import Derived.BigQuiet
import Derived.Deep.LoopGhost
import Derived.Shelf.Abstract
namespace Go.Proofs.Ytacnjjjdkpbeaaa
open Go.RowKit
set_option maxRecDepth 100000

@[go_sem] def Ln.val (x : Ln) : Value := .agg #[(Value.int .i64) x.m.page, (Value.int .i64) x.m.size, (Value.int .i64) x.m.frame, (Value.int .i64) x.m.rights, Value.bool x.dirty]
def lnZero : Value := .agg #[(Value.int .i64) 0, (Value.int .i64) 0, (Value.int .i64) 0, (Value.int .i64) 0, Value.bool false]
theorem elemLn : Elem Try.prog 39 lnZero 5 40 := ⟨by kernel_rfl, rfl, by omega⟩
theorem ln_len (x : Ln) : x.cells.length = 5 := rfl
/-- A row of lines at value v. -/
def lrow (v : Value) (l : List Ln) : HProp := row 39 5 v l.length (lcells l)
section
variable {w : World} {R : HProp} {A : Option Addr} {n c : Nat} {l : List Ln}
theorem lrow_len (h : Has w (lrow (.slice A n c) l * R)) : n = l.length := by
  rcases Has.rowCases (e := 39) (size := 5) h with ⟨hv, h0, _⟩ | ⟨g, cap, cur, hv, _⟩
  · injection hv with a b
    omega
  · injection hv
theorem lrow_small (h : Has w (lrow (.slice A n c) l * R)) : n ≤ 9223372036854775807 ∧ n ≤ c := by
  obtain rfl := lrow_len h
  refine ⟨(Has.rowLens (e := 39) (size := 5) h).2, ?_⟩
  rcases Has.rowCases (e := 39) (size := 5) h with ⟨hv, h0, _⟩ | ⟨g, cap, cur, hv, h1, _⟩
  · injection hv with a b
    omega
  · injection hv with a b d
    omega
/-- The cells of one of them. -/
theorem lrow_at (h : Has w (lrow (.slice A n c) l * R)) {k : Nat} (hk : k < l.length) :
    ∃ b, A = some ⟨b, 0, none⟩ ∧ b < w.heap.size ∧
      (w.cell? ⟨b, k * 5, none⟩ = some ((Value.int .i64) l[k].m.page) ∧ w.cell? ⟨b, k * 5 + 1, none⟩ = some ((Value.int .i64) l[k].m.size) ∧ w.cell? ⟨b, k * 5 + 2, none⟩ = some ((Value.int .i64) l[k].m.frame) ∧ w.cell? ⟨b, k * 5 + 3, none⟩ = some ((Value.int .i64) l[k].m.rights) ∧ w.cell? ⟨b, k * 5 + 4, none⟩ = some (Value.bool l[k].dirty)) ∧
      (w.frozen? ⟨b, k * 5, none⟩ = false ∧ w.frozen? ⟨b, k * 5 + 1, none⟩ = false ∧ w.frozen? ⟨b, k * 5 + 2, none⟩ = false ∧ w.frozen? ⟨b, k * 5 + 3, none⟩ = false ∧ w.frozen? ⟨b, k * 5 + 4, none⟩ = false) := by
  obtain rfl := lrow_len h
  have g := fun t (ht : t < 5) => Has.rowGet (e := 39) (size := 5) h (i := k * 5 + t) (u := (l[k].cells[t]'(by rw [ln_len]; exact ht))) (by
    have := flat_get (cells := Ln.cells) ln_len hk ht
    rw [List.getElem?_eq_getElem (l := l[k].cells) (by rw [ln_len]; exact ht)] at this
    exact this)
  obtain ⟨b, rfl, hb, c0, f0⟩ := g 0 (by omega)
  obtain ⟨b1, e1, _, c1, f1⟩ := g 1 (by omega)
  obtain ⟨b2, e2, _, c2, f2⟩ := g 2 (by omega)
  obtain ⟨b3, e3, _, c3, f3⟩ := g 3 (by omega)
  obtain ⟨b4, e4, _, c4, f4⟩ := g 4 (by omega)
  injection e1 with e1; injection e1 with e1; subst e1
  injection e2 with e2; injection e2 with e2; subst e2
  injection e3 with e3; injection e3 with e3; subst e3
  injection e4 with e4; injection e4 with e4; subst e4
  exact ⟨b, rfl, hb, ⟨c0, c1, c2, c3, c4⟩, f0, f1, f2, f3, f4⟩
/-- One of them is written. -/
theorem lrow_set {g : Nat} (h : Has w (lrow (.slice (some ⟨g, 0, none⟩) n c) l * R)) {k : Nat} (hk : k < l.length) (x : Ln) :
    Has (((((w.setCell ⟨g, k * 5, none⟩ ((Value.int .i64) x.m.page)).setCell ⟨g, k * 5 + 1, none⟩ ((Value.int .i64) x.m.size)).setCell ⟨g, k * 5 + 2, none⟩ ((Value.int .i64) x.m.frame)).setCell ⟨g, k * 5 + 3, none⟩ ((Value.int .i64) x.m.rights)).setCell ⟨g, k * 5 + 4, none⟩ (Value.bool x.dirty))
      (lrow (.slice (some ⟨g, 0, none⟩) n c) (l.set k x) * R) := by
  obtain rfl := lrow_len h
  have h1 := Has.rowSetCells (e := 39) (size := 5) x.cells (k * 5) h (by rw [ln_len]; omega)
  rw [ln_len] at h1
  have e1 := flat_set (cells := Ln.cells) ln_len hk x
  have e2 : (lcells l).take (k * 5) ++ (x.cells ++ (lcells l).drop (k * 5 + 5)) = lcells (l.set k x) := e1
  rw [e2] at h1
  unfold lrow
  rw [List.length_set]
  exact h1
end

/-- Where the first line is that something holds of. -/
def fidx (p : Ln → Bool) (l : List Ln) : Int := match l.findIdx? p with | some k => (k : Int) | none => -1
theorem fidx_hit {p : Ln → Bool} {l : List Ln} {k : Nat} (hk : k < l.length) (h : p l[k] = true) (ha : ∀ j (hj : j < l.length), j < k → p l[j] = false) : fidx p l = k := by
  unfold fidx
  rw [List.findIdx?_eq_some_iff_getElem.2 ⟨hk, h, fun j hj => by rw [ha j (by omega) hj]; decide⟩]
theorem fidx_miss {p : Ln → Bool} {l : List Ln} (ha : ∀ j (hj : j < l.length), p l[j] = false) : fidx p l = -1 := by
  unfold fidx
  rw [List.findIdx?_eq_none_iff.2 fun x hx => by
    obtain ⟨j, hj, rfl⟩ := List.getElem_of_mem hx
    exact ha j hj]
theorem fidx_cases (p : Ln → Bool) (l : List Ln) : (fidx p l = -1 ∧ ∀ j (hj : j < l.length), p l[j] = false) ∨ ∃ (k : Nat) (h : k < l.length), fidx p l = k ∧ p l[k] = true ∧ ∀ j (hj : j < l.length), j < k → p l[j] = false := by
  cases hf : l.findIdx? p with
  | none =>
    have ha : ∀ j (hj : j < l.length), p l[j] = false := fun j hj => by simpa using List.findIdx?_eq_none_iff.1 hf _ (List.getElem_mem hj)
    exact .inl ⟨fidx_miss ha, ha⟩
  | some k =>
    obtain ⟨hk, h1, h2⟩ := List.findIdx?_eq_some_iff_getElem.1 hf
    have ha : ∀ j (hj : j < l.length), j < k → p l[j] = false := fun j hj hjk => by simpa using h2 j hjk
    exact .inr ⟨k, hk, fidx_hit hk h1 ha, h1, ha⟩

theorem indexFunc_ln (l : List Ln) (p : Ln → Bool) (g : Nat) (cap : Array Value) (A : Option Addr) (n c : Nat) (R : HProp) (w : World) (h : Has w (lrow (.slice A n c) l * R))
    (eg : ∀ args w, (callFunc g args).run Try.prog w = .ok (.enter g args) w)
    (hp : ∀ x ∈ l, ∀ W, Has W R → Calls Try.prog g (#[x.val] ++ cap) W (Pure (Value.bool (p x)) W)) :
    Calls Try.prog 79 #[.slice A n c, .func (.func g) #[] cap] w (Pure ((Value.int .i64) (fidx p l)) w) := by
  obtain rfl := lrow_len h
  obtain ⟨hbig, _⟩ := lrow_small h
  have HP := Lib.hid hp
  clear hp
  go_enter Try.func79, Try.ntmps79
  go_wp2_with fail
  go_loopw [5, 8] (fun _ s8 wr => ∃ k : Nat, k ≤ l.length ∧ s8 = (Value.int .i64) k ∧ Below w.heap.size w wr ∧ Hid (∀ j (hj : j < l.length), j < k → p l[j] = false)) (fun _ s8 _ => l.length - (intOf s8).toNat)
  case atStart => exact ⟨0, Nat.zero_le _, rfl, Below.refl _ _, Lib.hid fun j _ h => absurd h (Nat.not_lt_zero _)⟩
  case round =>
    obtain ⟨k, hk, rfl, BW, HA⟩ := hrel
    by_cases hlt : k < l.length
    · have h' := h.below BW
      obtain ⟨b, rfl, hb, ⟨c0, c1, c2, c3, c4⟩, _⟩ := lrow_at h' hlt
      have hc := HP.out l[k] (List.getElem_mem hlt) wr h'.right
      have hz := Lib.hid (show (l[k] = l[k]) from rfl)
      generalize hx : l[k] = x at c0 c1 c2 c3 c4 hc
      have HX := Lib.hid hx
      clear hx hz h'
      have BW' := Lib.hid BW
      clear BW h
      cases hq : p x with
      | true =>
        rw [hq] at hc
        go_wp2_with (go_at_fn g; refine hc.mono ?_; rintro e w' ⟨rfl, hb'⟩)
        go_ret
        exact ⟨by rw [fidx_hit hlt (by rw [HX.out]; exact hq) HA.out]; rfl, BW'.out.trans (hb'.mono BW'.out.size)⟩
      | false =>
        rw [hq] at hc
        go_wp2_with (go_at_fn g; refine hc.mono ?_; rintro e w' ⟨rfl, hb'⟩)
        go_roundw
        case rel =>
          refine ⟨k + 1, by omega, by go_num, BW'.out.trans (hb'.mono BW'.out.size), Lib.hid fun j hj hjk => ?_⟩
          by_cases e : j = k
          · subst e; rw [HX.out]; exact hq
          · exact HA.out j hj (by omega)
        case measure => simp [intOf]; omega
    · have : k = l.length := by omega
      subst this
      go_wp2_with fail
      go_ret
      exact ⟨by rw [fidx_miss fun j hj => HA.out j hj hj]; rfl, BW⟩
end Go.Proofs.Ytacnjjjdkpbeaaa
