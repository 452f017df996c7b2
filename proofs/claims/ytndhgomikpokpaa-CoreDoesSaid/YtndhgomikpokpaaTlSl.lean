/- Contracts of package slices at lines: IndexFunc, DeleteFunc, Delete, Clone. -/
import Derived.Test.YtndhgomikpokpaaRows3
import Derived.Test.YtndhgomikpokpaaTlbM
import Derived.Test.YtndhgomikpokpaaEq
import Derived.Lib.Hide
import Derived.Lib.SliceRun
import Derived.Outline
import Derived.BigQuiet
import Derived.Deep.LoopGhost
import Derived.Shelf.Abstract
namespace Go.Proofs.Ytndhgomikpokpaa
open Go.RowKit
set_option maxRecDepth 100000

@[go_sem] def Ln.val (x : Ln) : Value := .agg #[(Value.int .i64) x.m.page, (Value.int .i64) x.m.size, (Value.int .i64) x.m.frame, (Value.int .i64) x.m.rights, Value.bool x.dirty]
def lnZero : Value := .agg #[(Value.int .i64) 0, (Value.int .i64) 0, (Value.int .i64) 0, (Value.int .i64) 0, Value.bool false]
theorem elemLn : Elem Try.prog 51 lnZero 5 40 := ⟨by kernel_rfl, rfl, by omega⟩
theorem ln_len (x : Ln) : x.cells.length = 5 := rfl
/-- A row of lines at value v. -/
def lrow (v : Value) (l : List Ln) : HProp := row 51 5 v l.length (lcells l)
section
variable {w : World} {R : HProp} {A : Option Addr} {n c : Nat} {l : List Ln}
theorem lrow_len (h : Has w (lrow (.slice A n c) l * R)) : n = l.length := by
  rcases Has.rowCases (e := 51) (size := 5) h with ⟨hv, h0, _⟩ | ⟨g, cap, cur, hv, _⟩
  · injection hv with a b
    omega
  · injection hv
theorem lrow_small (h : Has w (lrow (.slice A n c) l * R)) : n ≤ 9223372036854775807 ∧ n ≤ c := by
  obtain rfl := lrow_len h
  refine ⟨(Has.rowLens (e := 51) (size := 5) h).2, ?_⟩
  rcases Has.rowCases (e := 51) (size := 5) h with ⟨hv, h0, _⟩ | ⟨g, cap, cur, hv, h1, _⟩
  · injection hv with a b
    omega
  · injection hv with a b d
    omega
/-- The cells of one of them. -/
theorem lrow_at (h : Has w (lrow (.slice A n c) l * R)) {k : Nat} (hk : k < l.length) :
    ∃ b, A = some ⟨b, 0, none⟩ ∧ b < w.heap.size ∧
      (w.cell? ⟨b, k * 5, none⟩ = some ((Value.int .i64) l[k].m.page) ∧ w.cell? ⟨b, k * 5 + 1, none⟩ = some ((Value.int .i64) l[k].m.size) ∧ w.cell? ⟨b, k * 5 + 2, none⟩ = some ((Value.int .i64) l[k].m.frame) ∧ w.cell? ⟨b, k * 5 + 3, none⟩ = some ((Value.int .i64) l[k].m.rights) ∧ w.cell? ⟨b, k * 5 + 4, none⟩ = some (Value.bool l[k].dirty)) ∧
      (w.frozen? ⟨b, k * 5, none⟩ = false ∧ w.frozen? ⟨b, k * 5 + 1, none⟩ = false ∧ w.frozen? ⟨b, k * 5 + 2, none⟩ = false ∧ w.frozen? ⟨b, k * 5 + 3, none⟩ = false ∧ w.frozen? ⟨b, k * 5 + 4, none⟩ = false) := by
  obtain rfl := lrow_len h
  have g := fun t (ht : t < 5) => Has.rowGet (e := 51) (size := 5) h (i := k * 5 + t) (u := (l[k].cells[t]'(by rw [ln_len]; exact ht))) (by
    have := flat_get (cells := Ln.cells) ln_len hk ht
    rw [List.getElem?_eq_getElem (l := l[k].cells) (by rw [ln_len]; exact ht)] at this
    exact this)
  obtain ⟨b, rfl, hb, c0, f0⟩ := g 0 (by omega)
  obtain ⟨b1, e1, _, c1, f1⟩ := g 1 (by omega)
  obtain ⟨b2, e2, _, c2, f2⟩ := g 2 (by omega)
  obtain ⟨b3, e3, _, c3, f3⟩ := g 3 (by omega)
  obtain ⟨b4, e4, _, c4, f4⟩ := g 4 (by omega)
  injection e1 with e1; injection e1 with e1; subst e1
  injection e2 with e2; injection e2 with e2; subst e2
  injection e3 with e3; injection e3 with e3; subst e3
  injection e4 with e4; injection e4 with e4; subst e4
  exact ⟨b, rfl, hb, ⟨c0, c1, c2, c3, c4⟩, f0, f1, f2, f3, f4⟩
/-- One of them is written. -/
theorem lrow_set {g : Nat} (h : Has w (lrow (.slice (some ⟨g, 0, none⟩) n c) l * R)) {k : Nat} (hk : k < l.length) (x : Ln) :
    Has (((((w.setCell ⟨g, k * 5, none⟩ ((Value.int .i64) x.m.page)).setCell ⟨g, k * 5 + 1, none⟩ ((Value.int .i64) x.m.size)).setCell ⟨g, k * 5 + 2, none⟩ ((Value.int .i64) x.m.frame)).setCell ⟨g, k * 5 + 3, none⟩ ((Value.int .i64) x.m.rights)).setCell ⟨g, k * 5 + 4, none⟩ (Value.bool x.dirty))
      (lrow (.slice (some ⟨g, 0, none⟩) n c) (l.set k x) * R) := by
  obtain rfl := lrow_len h
  have h1 := Has.rowSetCells (e := 51) (size := 5) x.cells (k * 5) h (by rw [ln_len]; omega)
  rw [ln_len] at h1
  have e1 := flat_set (cells := Ln.cells) ln_len hk x
  have e2 : (lcells l).take (k * 5) ++ (x.cells ++ (lcells l).drop (k * 5 + 5)) = lcells (l.set k x) := e1
  rw [e2] at h1
  unfold lrow
  rw [List.length_set]
  exact h1
end

/-- Where the first line is that something holds of. -/
def fidx (p : Ln → Bool) (l : List Ln) : Int := match l.findIdx? p with | some k => (k : Int) | none => -1
theorem fidx_hit {p : Ln → Bool} {l : List Ln} {k : Nat} (hk : k < l.length) (h : p l[k] = true) (ha : ∀ j (hj : j < l.length), j < k → p l[j] = false) : fidx p l = k := by
  unfold fidx
  rw [List.findIdx?_eq_some_iff_getElem.2 ⟨hk, h, fun j hj => by rw [ha j (by omega) hj]; decide⟩]
theorem fidx_miss {p : Ln → Bool} {l : List Ln} (ha : ∀ j (hj : j < l.length), p l[j] = false) : fidx p l = -1 := by
  unfold fidx
  rw [List.findIdx?_eq_none_iff.2 fun x hx => by
    obtain ⟨j, hj, rfl⟩ := List.getElem_of_mem hx
    exact ha j hj]
theorem fidx_cases (p : Ln → Bool) (l : List Ln) : (fidx p l = -1 ∧ ∀ j (hj : j < l.length), p l[j] = false) ∨ ∃ (k : Nat) (h : k < l.length), fidx p l = k ∧ p l[k] = true ∧ ∀ j (hj : j < l.length), j < k → p l[j] = false := by
  cases hf : l.findIdx? p with
  | none =>
    have ha : ∀ j (hj : j < l.length), p l[j] = false := fun j hj => by simpa using List.findIdx?_eq_none_iff.1 hf _ (List.getElem_mem hj)
    exact .inl ⟨fidx_miss ha, ha⟩
  | some k =>
    obtain ⟨hk, h1, h2⟩ := List.findIdx?_eq_some_iff_getElem.1 hf
    have ha : ∀ j (hj : j < l.length), j < k → p l[j] = false := fun j hj hjk => by simpa using h2 j hjk
    exact .inr ⟨k, hk, fidx_hit hk h1 ha, h1, ha⟩

theorem indexFunc_ln (l : List Ln) (p : Ln → Bool) (g : Nat) (cap : Array Value) (A : Option Addr) (n c : Nat) (R : HProp) (w : World) (h : Has w (lrow (.slice A n c) l * R))
    (eg : ∀ args w, (callFunc g args).run Try.prog w = .ok (.enter g args) w)
    (hp : ∀ x ∈ l, ∀ W, Has W R → Calls Try.prog g (#[x.val] ++ cap) W (Pure (Value.bool (p x)) W)) :
    Calls Try.prog 128 #[.slice A n c, .func (.func g) #[] cap] w (Pure ((Value.int .i64) (fidx p l)) w) := by
  obtain rfl := lrow_len h
  obtain ⟨hbig, _⟩ := lrow_small h
  have HP := Lib.hid hp
  clear hp
  go_enter Try.func128, Try.ntmps128
  go_wp2_with fail
  go_loopw [5, 8] (fun _ s8 wr => ∃ k : Nat, k ≤ l.length ∧ s8 = (Value.int .i64) k ∧ Below w.heap.size w wr ∧ Hid (∀ j (hj : j < l.length), j < k → p l[j] = false)) (fun _ s8 _ => l.length - (intOf s8).toNat)
  case atStart => exact ⟨0, Nat.zero_le _, rfl, Below.refl _ _, Lib.hid fun j _ h => absurd h (Nat.not_lt_zero _)⟩
  case round =>
    obtain ⟨k, hk, rfl, BW, HA⟩ := hrel
    by_cases hlt : k < l.length
    · have h' := h.below BW
      obtain ⟨b, rfl, hb, ⟨c0, c1, c2, c3, c4⟩, _⟩ := lrow_at h' hlt
      have hc := HP.out l[k] (List.getElem_mem hlt) wr h'.right
      have hz := Lib.hid (show (l[k] = l[k]) from rfl)
      generalize hx : l[k] = x at c0 c1 c2 c3 c4 hc
      have HX := Lib.hid hx
      clear hx hz h'
      have BW' := Lib.hid BW
      clear BW h
      cases hq : p x with
      | true =>
        rw [hq] at hc
        go_wp2_with (go_at_fn g; refine hc.mono ?_; rintro e w' ⟨rfl, hb'⟩)
        go_ret
        exact ⟨by rw [fidx_hit hlt (by rw [HX.out]; exact hq) HA.out]; rfl, BW'.out.trans (hb'.mono BW'.out.size)⟩
      | false =>
        rw [hq] at hc
        go_wp2_with (go_at_fn g; refine hc.mono ?_; rintro e w' ⟨rfl, hb'⟩)
        go_roundw
        case rel =>
          refine ⟨k + 1, by omega, by go_num, BW'.out.trans (hb'.mono BW'.out.size), Lib.hid fun j hj hjk => ?_⟩
          by_cases e : j = k
          · subst e; rw [HX.out]; exact hq
          · exact HA.out j hj (by omega)
        case measure => simp [intOf]; omega
    · have : k = l.length := by omega
      subst this
      go_wp2_with fail
      go_ret
      exact ⟨by rw [fidx_miss fun j hj => HA.out j hj hj]; rfl, BW⟩
end Go.Proofs.Ytndhgomikpokpaa

namespace Go.Proofs.Ytndhgomikpokpaa
open Go.RowKit
set_option maxRecDepth 100000

theorem lzero_v : ∀ w, (zeroValue 51).run Try.prog w = .ok lnZero w := Try.zeroValue51
section
variable {w : World} {R : HProp} {n c : Nat} {l : List Ln}
/-- What a 'clear' of its last elements comes to. -/
theorem lrow_clear {g i : Nat} (h : Has w (lrow (.slice (some ⟨g, 0, none⟩) n c) l * R)) (hi : i < n) : ∀ ty, (Builtin.clear_ #[136] ty #[.slice (some ⟨g, i * 5, none⟩) (n - i) (c - i)]).run Try.prog w = .ok (.tuple #[]) (w.setCells g (i * 5) (Builtin.zeroCells lnZero.cells (n - i)).toList) := by
  intro ty
  have hl := lrow_len h
  subst hl
  have hg : ∀ j, j < (l.length - i) * 5 → (w.cell? ⟨g, i * 5 + j, none⟩).isSome = true ∧ w.frozen? ⟨g, i * 5 + j, none⟩ = false := fun j hj => by
    obtain ⟨b, hb, _, hc, hf⟩ := Has.rowGet (e := 51) (size := 5) h (i := i * 5 + j) (u := (lcells l)[i * 5 + j]'(by rw [lcells_len]; omega)) (List.getElem?_eq_getElem _)
    injection hb with hb
    injection hb with hb
    subst hb
    exact ⟨by rw [hc]; rfl, hf⟩
  exact run_clear_cells w _ _ ty lnZero 5 Try.underlying136 lzero_v rfl (by intro v hv; simp [lnZero, Value.cells] at hv; rcases hv with rfl | rfl <;> rfl) g (i * 5) _ _ (by omega) (by omega) (fun j hj => (hg j hj).1) (fun j hj => (hg j hj).2)
theorem lrow_cut {g i : Nat} (h : Has w (lrow (.slice (some ⟨g, 0, none⟩) n c) l * R)) (hi : i ≤ n) (zs : List Value) : Has (w.setCells g (i * 5) zs) (lrow (.slice (some ⟨g, 0, none⟩) i c) (l.take i) * R) := by
  have hl := lrow_len h
  subst hl
  have h1 := Has.rowCut (e := 51) (size := 5) h hi
  have h2 := Has.rowSpareCells zs (i * 5) h1 (Nat.le_refl _)
  unfold lrow
  rw [List.length_take, Nat.min_eq_left hi]
  rw [show (lcells l).take (i * 5) = lcells (l.take i) from flat_take ln_len l i] at h2
  exact h2
end
theorem Ext.setCells {w0 : World} (b : Nat) : ∀ (vs : List Value) (o : Nat) {w : World}, Ext w0 w → Ext w0 (w.setCells b o vs)
  | [], _, _, h => h
  | _ :: r, o, _, h => Ext.setCells b r (o + 1) (h.set _ _)
theorem filter_next {p : Ln → Bool} {l : List Ln} {j : Nat} (hj : j < l.length) : (l.take (j + 1)).filter p = (l.take j).filter p ++ (if p l[j] then [l[j]] else []) := by
  rw [List.take_succ_eq_append_getElem hj, List.filter_append]
  cases hq : p l[j] <;> simp [hq]

theorem deleteFunc_ln (l : List Ln) (p : Ln → Bool) (g : Nat) (cap : Array Value) (A : Option Addr) (n c : Nat) (R : HProp) (w : World) (h : Has w (lrow (.slice A n c) l * R))
    (eg : ∀ args w, (callFunc g args).run Try.prog w = .ok (.enter g args) w)
    (hp : ∀ x ∈ l, ∀ W, Has W R → Calls Try.prog g (#[x.val] ++ cap) W (Pure (Value.bool (p x)) W)) :
    Calls Try.prog 145 #[.slice A n c, .func (.func g) #[] cap] w
      (Res (.slice A (l.filter fun x => !p x).length c) (lrow (.slice A (l.filter fun x => !p x).length c) (l.filter fun x => !p x) * R) w) := by
  have hI := indexFunc_ln l p g cap A n c R w h eg hp
  obtain rfl := lrow_len h
  obtain ⟨hbig, hnc⟩ := lrow_small h
  have HP := Lib.hid hp
  clear hp
  rcases fidx_cases p l with ⟨e1, hall⟩ | ⟨k0, hk0, e1, ht, hall⟩
  · rw [e1] at hI
    have hf : (l.filter fun x => !p x) = l := List.filter_eq_self.2 fun x hx => by
      obtain ⟨j, hj, rfl⟩ := List.getElem_of_mem hx
      rw [hall j hj]; rfl
    rw [hf]
    clear hall e1 hf
    go_enter Try.func145, Try.ntmps145
    go_wp2_with (refine hI.mono ?_; rintro e w2 ⟨rfl, b2⟩)
    go_ret
    exact ⟨rfl, h.below b2, (Ext.refl w).below b2⟩
  · rw [e1] at hI
    have hne : ((k0 : Int) == -1) = false := beq_eq_false_iff_ne.2 (by omega)
    have hA := h
    obtain ⟨b, rfl, _⟩ := lrow_at hA hk0
    clear hA
    have HK := Lib.hid (show l.take k0 = (l.take (k0 + 1)).filter fun x => !p x by
      rw [filter_next hk0, ht]
      simp only [Bool.not_true, Bool.false_eq_true, if_false, List.append_nil]
      exact (List.filter_eq_self.2 fun x hx => by
        obtain ⟨j, hj, rfl⟩ := List.getElem_of_mem hx
        rw [List.length_take] at hj
        rw [List.getElem_take, hall j (by omega) (by omega)]; rfl).symm)
    clear hall ht e1
    go_enter Try.func145, Try.ntmps145
    go_wp2_with (refine hI.mono ?_; rintro e w2 ⟨rfl, b2⟩)
    have h2 := h.below b2
    have x2 := (Ext.refl w).below b2
    clear h hI
    go_loopw [5, 6, 7] (fun s5 s6 _ wr => ∃ (i j : Nat) (dk : List Ln), s5 = (Value.int .i64) i ∧ s6 = (Value.int .i64) j ∧ i < j ∧ j ≤ l.length ∧ dk.length = l.length ∧ Hid (dk.take i = (l.take j).filter fun x => !p x) ∧ Hid (dk.drop j = l.drop j) ∧ Has wr (lrow (.slice (some ⟨b, 0, none⟩) l.length c) dk * R) ∧ Ext w wr) (fun _ s6 _ _ => l.length - (intOf s6).toNat)
    case atStart => exact ⟨k0, k0 + 1, l, rfl, by go_num, by omega, by omega, rfl, HK, Lib.hid rfl, h2, x2⟩
    case round =>
      clear h2 x2 b2 HK
      obtain ⟨i, j, dk, rfl, rfl, hij, hjl, hdl, HT, HD, hr, hx⟩ := hrel
      by_cases hlt : j < l.length
      · have hj : j < dk.length := by omega
        have hxj : dk[j] = l[j] := by
          have e1 : (dk.drop j)[0]? = (l.drop j)[0]? := by rw [HD.out]
          simp only [List.getElem?_drop, Nat.add_zero] at e1
          rw [List.getElem?_eq_getElem hj, List.getElem?_eq_getElem hlt] at e1
          injection e1
        obtain ⟨b', hb', hb, ⟨c0, c1, c2, c3, c4⟩, _⟩ := lrow_at hr hj
        injection hb' with hb'
        injection hb' with hb'
        subst hb'
        rw [hxj] at c0 c1 c2 c3 c4
        have HX := Lib.hid (show l[j] ∈ l from List.getElem_mem hlt)
        have HN := Lib.hid (filter_next (p := fun x => !p x) hlt)
        have HDN := Lib.hid (show dk.drop (j + 1) = l.drop (j + 1) by
          have := HD.out
          rw [← List.drop_drop (j := j) (i := 1), ← List.drop_drop (j := j) (i := 1), this])
        clear hxj
        generalize l[j] = x at c0 c1 c2 c3 c4 HX HN
        have h3 := hr.new #[(Value.int .i64) x.m.page, (Value.int .i64) x.m.size, (Value.int .i64) x.m.frame, (Value.int .i64) x.m.rights, Value.bool x.dirty] 51
        have x3 := hx.alloc (.cells #[(Value.int .i64) x.m.page, (Value.int .i64) x.m.size, (Value.int .i64) x.m.frame, (Value.int .i64) x.m.rights, Value.bool x.dirty] 51)
        have hc := HP.out x HX.out _ h3.right.right
        clear hr hx
        cases hq : p x with
        | true =>
          rw [hq] at hc
          go_wp2_with (refine hc.mono ?_; rintro e w' ⟨rfl, b4⟩)
          have h4 := (h3.below b4).right
          have x4 := x3.below b4
          go_roundw
          case rel => exact ⟨i, j + 1, dk, rfl, by go_num, by omega, by omega, hdl, Lib.hid (by rw [HT.out, HN.out, hq]; simp), HDN, h4, x4⟩
          case measure => simp [intOf]; omega
        | false =>
          rw [hq] at hc
          have hi : i < dk.length := by omega
          go_wp2_with (refine hc.mono ?_; rintro e w' ⟨rfl, b4⟩; have h4 := h3.below b4; obtain ⟨a0, a1, a2, a3, a4⟩ := h4.cells5; obtain ⟨b', hb', gb, ⟨g0, g1, g2, g3, g4⟩, f0, f1, f2, f3, f4⟩ := lrow_at h4.right hi; injection hb' with hb'; injection hb' with hb'; subst hb')
          have h5 := lrow_set h4.right hi x
          go_roundw
          case rel =>
            refine ⟨i + 1, j + 1, dk.set i x, by go_num, by go_num, by omega, by omega, by rw [List.length_set]; exact hdl, Lib.hid ?_, Lib.hid ?_, h5, ((((((x3.below b4).set _ _).set _ _).set _ _).set _ _).set _ _)⟩
            · rw [HN.out, hq, ← HT.out, List.take_succ_eq_append_getElem (by rw [List.length_set]; exact hi), List.getElem_set_self, List.take_set_of_le (Nat.le_refl i)]
              simp
            · rw [List.drop_set_of_lt (by omega), HDN.out]
          case measure => simp [intOf]; omega
      · have hje : j = l.length := by omega
        subst hje
        obtain ⟨zs, hcl⟩ : ∃ zs, ∀ ty, (Builtin.clear_ #[136] ty #[.slice (some ⟨b, i * 5, none⟩) (l.length - i) (c - i)]).run Try.prog wr = .ok (.tuple #[]) (wr.setCells b (i * 5) zs) := ⟨_, lrow_clear hr hij⟩
        have hci : ¬ l.length ≤ i := by omega
        have hfin := lrow_cut hr (Nat.le_of_lt hij) zs
        have hf : dk.take i = l.filter fun x => !p x := by rw [HT.out, List.take_length]
        have hfl : (l.filter fun x => !p x).length = i := by rw [← hf, List.length_take]; omega
        have hF := Lib.hid hf
        have hFL := Lib.hid hfl
        clear hf hfl hr
        go_wp2_with fail
        go_ret
        rw [hFL.out, ← hF.out]
        exact ⟨rfl, hfin, Ext.setCells _ _ _ hx⟩
end Go.Proofs.Ytndhgomikpokpaa

namespace Go.Proofs.Ytndhgomikpokpaa
open Go.RowKit
set_option maxRecDepth 100000

theorem info_ln : (Try.prog.info? 51).map (fun i => (i.zero, i.size, i.bytes)) = some (some lnZero, 5, 40) := by kernel_rfl
theorem lrow_one {l : List Ln} : ∀ u ∈ lcells l, u.oneCell' = true := by
  intro u hu
  obtain ⟨x, _, hx⟩ := List.mem_flatMap.1 hu
  simp [Ln.cells] at hx
  rcases hx with rfl | rfl | rfl | rfl | rfl <;> rfl
theorem lrow_news {w : World} {R : HProp} {g n c : Nat} {l : List Ln} (h : Has w (lrow (.slice (some ⟨g, 0, none⟩) n c) l * R)) (k : Nat) :
    ∀ j u, ((lcells l).drop (k * 5))[j]? = some u → w.cell? ⟨g, k * 5 + j, none⟩ = some u := by
  intro j u hu
  rw [List.getElem?_drop] at hu
  obtain rfl := lrow_len h
  obtain ⟨b, hb, _, hc, _⟩ := Has.rowGet (e := 51) (size := 5) h hu
  injection hb with hb
  injection hb with hb
  subst hb
  exact hc

/-- Delete, of elements that are there. -/
theorem delete_ln (l : List Ln) (i j g n c : Nat) (R : HProp) (w : World) (hij : i < j) (hj : j ≤ n) (h : Has w (lrow (.slice (some ⟨g, 0, none⟩) n c) l * R)) :
    Calls Try.prog 132 #[.slice (some ⟨g, 0, none⟩) n c, .int .i64 i, .int .i64 j] w
      (Res (.slice (some ⟨g, 0, none⟩) (i + (n - j)) c) (lrow (.slice (some ⟨g, 0, none⟩) (i + (n - j)) c) (l.take i ++ l.drop j) * R) w) := by
  obtain rfl := lrow_len h
  obtain ⟨hbig, hnc⟩ := lrow_small h
  obtain ⟨i0, hi0, hz0, hz1, hz2⟩ := info_parts info_ln
  obtain ⟨A, hA, hnews⟩ : ∃ A : Addr, (if c = j then some (⟨g, 0, none⟩ : Addr) else some ⟨g, j * 5, none⟩) = some A ∧ Hid (∀ t u, ((lcells l).drop (j * 5))[t]? = some u → w.drew.cell? (A.add t) = some u) := by
    by_cases hc : c = j
    · refine ⟨⟨g, 0, none⟩, by simp [hc], fun t u hu => ?_⟩
      rw [List.drop_eq_nil_of_le (by rw [lcells_len]; omega)] at hu
      simp at hu
    · refine ⟨⟨g, j * 5, none⟩, by simp [hc], fun t u hu => ?_⟩
      rw [Addr.add_lit]
      exact lrow_news h j t u hu
  have s1 : Hid (((lcells l).drop (j * 5)).length = (l.length - j) * 5) := by rw [List.length_drop, lcells_len]; show _ = _; omega
  have s2 : Hid (∀ u ∈ (lcells l).drop (j * 5), u.oneCell' = true) := fun u hu => lrow_one u (List.mem_of_mem_drop hu)
  have s3 : Hid (∀ t, t < ((lcells l).drop (j * 5)).length → (w.drew.cell? ⟨g, 0 + i * 5 + t, none⟩).isSome = true ∧ w.drew.frozen? ⟨g, 0 + i * 5 + t, none⟩ = false) := by
    intro t ht
    rw [s1.out] at ht
    obtain ⟨b, hb, _, hc, hf⟩ := Has.rowGet (e := 51) (size := 5) h (i := i * 5 + t) (u := (lcells l)[i * 5 + t]'(by rw [lcells_len]; omega)) (List.getElem?_eq_getElem _)
    injection hb with hb
    injection hb with hb
    subst hb
    rw [Nat.zero_add]
    exact ⟨by show (w.cell? _).isSome = true; rw [hc]; rfl, hf⟩
  have hic : i ≤ c := by omega
  have hne : ((i : Int) == (j : Int)) = false := beq_eq_false_iff_ne.2 (by omega)
  go_enter Try.func132, Try.ntmps132
  go_wp2_with fail
  go_region_law (refine step_append_room rfl (.tmp 22) (.tmp 25) 136 rfl 51 i0 5 Try.underlying136 hi0 hz1 g 0 i c (by simp [Act.eval, Act.put]) A (l.length - j) (c - j) ((lcells l).drop (j * 5)) (by simp [Act.eval, Act.put]) s1.out hnews.out s2.out (by omega) s3.out ?_)
  have hn' : i + (l.length - j) < l.length := by omega
  have h1 := Has.rowSetCells (e := 51) (size := 5) ((lcells l).drop (j * 5)) (i * 5) h.drew (by rw [s1.out]; omega)
  have hz : (l.take i ++ l.drop j).length = i + (l.length - j) := by simp; omega
  obtain ⟨zs, hcl⟩ : ∃ zs, ∀ ty, (Builtin.clear_ #[136] ty #[.slice (some ⟨g, (i + (l.length - j)) * 5, none⟩) (l.length - (i + (l.length - j))) (c - (i + (l.length - j)))]).run Try.prog (w.drew.setCells g (i * 5) ((lcells l).drop (j * 5))) = .ok (.tuple #[]) ((w.drew.setCells g (i * 5) ((lcells l).drop (j * 5))).setCells g ((i + (l.length - j)) * 5) zs) := by
    refine ⟨_, fun ty => run_clear_cells _ _ _ ty lnZero 5 Try.underlying136 lzero_v rfl (by intro v hv; simp [lnZero, Value.cells] at hv; rcases hv with rfl | rfl <;> rfl) g _ _ _ (by omega) (by omega) (fun t ht => ?_) (fun t ht => ?_)⟩
    all_goals
      obtain ⟨b, hb, _, hc, hf⟩ := Has.rowGet (e := 51) (size := 5) h1 (i := (i + (l.length - j)) * 5 + t) (List.getElem?_eq_getElem (by rw [h1.rowLens.1]; omega))
      injection hb with hb
      injection hb with hb
      subst hb
    · rw [hc]; rfl
    · exact hf
  have hfin : Has ((w.drew.setCells g (i * 5) ((lcells l).drop (j * 5))).setCells g ((i + (l.length - j)) * 5) zs) (lrow (.slice (some ⟨g, 0, none⟩) (i + (l.length - j)) c) (l.take i ++ l.drop j) * R) := by
    have := Has.rowDelete (e := 51) (size := 5) (i := i) (j := j) h.drew (by omega) hj zs
    unfold lrow
    rw [hz, lcells_append]
    have e1 : (lcells l).take (i * 5) = lcells (l.take i) := flat_take ln_len l i
    have e2 : (lcells l).drop (j * 5) = lcells (l.drop j) := flat_drop ln_len l j
    rw [← e1, ← e2]
    exact this
  have hx : Ext w ((w.drew.setCells g (i * 5) ((lcells l).drop (j * 5))).setCells g ((i + (l.length - j)) * 5) zs) := Ext.setCells _ _ _ (Ext.setCells _ _ _ (Ext.refl w).drew)
  clear h1 s1 s2 s3 hnews hA h hz
  generalize (w.drew.setCells g (i * 5) ((lcells l).drop (j * 5))) = w1 at *
  generalize i + (l.length - j) = n' at *
  have hcn : ¬ c ≤ n' := by omega
  have hnn : (n' : Int) ≤ (l.length : Int) := by omega
  go_wp2_with fail
  go_ret
  exact ⟨rfl, hfin, hx⟩

/-- What stood in a world stands beside what is new. -/
theorem Has.onto {w w' : World} {P Q : HProp} (h : Has w P) (h' : Has w' (Q * old w w.heap.size)) : Has w' (Q * P) := by
  obtain ⟨x, s, px⟩ := h
  obtain ⟨_, s', h1, h2, d, rfl, q, rfl⟩ := h'
  have sub : ∀ b o, x b = some o → (fun b => if b < w.heap.size then w.heap[b]? else none) b = some o := fun b o e => by
    have h0 : w.heap[b]? = some o := s b o e
    have hlt : b < w.heap.size := (Array.getElem?_eq_some_iff.1 h0).1
    show (if b < w.heap.size then w.heap[b]? else none) = some o
    rw [if_pos hlt]
    exact h0
  refine ⟨Hpm.union h1 x, ?_, h1, x, ?_, rfl, q, px⟩
  · refine Hpm.sub_union (Hpm.sub_union_left s') fun b o e => ?_
    exact Hpm.sub_union_right d s' b o (sub b o e)
  · intro b
    rcases d b with e | e
    · exact .inl e
    · right
      cases hx : x b with
      | none => rfl
      | some o => rw [sub b o hx] at e; cases e
/-- A slice of the call's own that reads these lines, behind all that was there. -/
def Cloned (l : List Ln) (w : World) (e : Ending) (w' : World) : Prop := ∃ A n c, e = .returned (.slice A n c) ∧ Has w' (lrow (.slice A n c) l * old w w.heap.size) ∧ Ext w w'
theorem clone_ln (l : List Ln) (A : Option Addr) (n c : Nat) (R : HProp) (w : World) (hs : l.length ≤ 1000000) (h : Has w (lrow (.slice A n c) l * R)) :
    Calls Try.prog 127 #[.slice A n c] w (Cloned l w) := by
  have q22 : ∀ (w : World) (a : Option Addr) (n c n' c' : Nat), (binOp .eql 136 (.slice a n c) (.slice none n' c')).run Try.prog w = .ok (.bool a.isNone) w := fun w a n c n' c' => Lib.run_eql_slice_nil w _ _ a n c n' c' Try.underlying136
  have hl0 := lrow_len h
  subst hl0
  cases A with
  | none =>
    have h0 : l = [] ∧ c = 0 := by
      rcases Has.rowCases (e := 51) (size := 5) h with ⟨hv, h0, _⟩ | ⟨g, cap, cur, hv, _⟩
      · injection hv with a b d
        exact ⟨List.eq_nil_of_length_eq_zero h0, d⟩
      · injection hv with a
        cases a
    obtain ⟨rfl, rfl⟩ := h0
    go_enter Try.func127, Try.ntmps127
    go_wp2_with fail
    go_ret
    exact ⟨none, 0, 0, rfl, Has.rowNil (has_old w), Ext.refl _⟩
  | some a =>
    have h0 : ∃ g, a = ⟨g, 0, none⟩ := by
      rcases Has.rowCases (e := 51) (size := 5) h with ⟨hv, h0, _⟩ | ⟨g, cap, cur, hv, _⟩
      · injection hv with a b d
        cases a
      · injection hv with a
        injection a with a
        exact ⟨g, a⟩
    obtain ⟨g, rfl⟩ := h0
    have h1 := (has_old w).new #[] 51
    have hrow : Has (w.alloc (.cells #[] 51)) (row 51 5 (.slice (some ⟨w.heap.size, 0, none⟩) 0 0) 0 [] * old w w.heap.size) := h1.rowOf rfl (Nat.le_refl _) (by unfold maxLen; omega) rfl rfl
    have hn := lrow_news (h.alloc (.cells #[] 51)) 0
    have hne : Hid (∀ j u, (lcells l)[j]? = some u → (w.alloc (.cells #[] 51)).cell? ((⟨g, 0, none⟩ : Addr).add j) = some u) := fun j u hu => by
      rw [Addr.add_lit]
      exact hn j u (by simpa using hu)
    have x1 := (Ext.refl w).alloc (.cells #[] 51)
    clear hn h1 h
    go_enter Try.func127, Try.ntmps127
    go_wp2_with (at_builtin; refine wpList_append_has rfl _ _ 136 rfl Try.underlying136 elemLn _ _ _ rfl hrow ⟨g, 0, none⟩ l.length c (lcells l) rfl (lcells_len l) hne.out lrow_one ?c2 ?c3 ?_)
    case c2 => unfold maxLen; omega
    case c3 => omega
    intro v' w2 h' x'
    obtain ⟨A', c', rfl⟩ := h'.rowForm
    go_wp2_with fail
    go_ret
    exact ⟨A', _, c', rfl, h', x1.trans x'⟩
end Go.Proofs.Ytndhgomikpokpaa
