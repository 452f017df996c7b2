/- How arguments that can be read come in as plain values, and how a law's walk becomes its row. -/
import Derived.Test.YtndhgomikpokpaaSep
import Derived.Test.YtndhgomikpokpaaModel
import Derived.ProofKit
import Derived.OpenShut
import Derived.ChangeOld
import Derived.Below
import Derived.Deep.Slices
import Derived.Test.YtndhgomikpokpaaTlbM
namespace Go.Proofs.Ytndhgomikpokpaa
open Go.ChangeShapes Go.WideShapes Go.ChangeAt Go.RowKit Go.Deep

/-- The cells of a plain type, in a row: an int kind, or a bool. -/
def structK (K : TypeId → Option (List (Option IntKind))) (P : Program) : List Field → Nat → Option (List (Option IntKind))
  | [], _ => some []
  | f :: fs, off =>
    if f.offset = off then
      match K f.type with
      | some l => if l.length = P.cellsOf f.type then (structK K P fs (off + l.length)).map (l ++ ·) else none
      | none => none
    else none
def kinds (P : Program) : Nat → TypeId → Option (List (Option IntKind))
  | 0, _ => none
  | d + 1, t =>
    match P.underlying t with
    | some .bool => some [none]
    | some (.int k) => some [some k]
    | some (.struct fs) =>
      match structK (kinds P d) P fs.toList 0 with
      | some l => if l.length = P.cellsOf t then some l else none
      | none => none
    | _ => none

def CellsOk : List (Option IntKind) → List Value → Prop
  | [], [] => True
  | none :: ks, v :: vs => (∃ b, v = .bool b) ∧ CellsOk ks vs
  | some k :: ks, v :: vs => (∃ n, v = .int k n ∧ (Lit.int k n).wf = true) ∧ CellsOk ks vs
  | _, _ => False
theorem CellsOk.append : ∀ {k1 k2 : List (Option IntKind)} {c1 c2 : List Value}, CellsOk k1 c1 → CellsOk k2 c2 → CellsOk (k1 ++ k2) (c1 ++ c2)
  | [], _, [], _, _, h2 => h2
  | [], _, _ :: _, _, h1, _ => h1.elim
  | none :: _, _, _ :: _, _, h1, h2 => ⟨h1.1, h1.2.append h2⟩
  | some _ :: _, _, _ :: _, _, h1, h2 => ⟨h1.1, h1.2.append h2⟩
  | none :: _, _, [], _, h1, _ => h1.elim
  | some _ :: _, _, [], _, h1, _ => h1.elim
theorem CellsOk.int {k : IntKind} {ks : List (Option IntKind)} {cs : List Value} (h : CellsOk (some k :: ks) cs) : ∃ n cs', cs = .int k n :: cs' ∧ (Lit.int k n).wf = true ∧ CellsOk ks cs' := by
  match cs, h with
  | v :: vs, ⟨⟨n, e, hw⟩, h2⟩ => exact ⟨n, vs, by rw [e], hw, h2⟩
theorem CellsOk.bool {ks : List (Option IntKind)} {cs : List Value} (h : CellsOk (none :: ks) cs) : ∃ b cs', cs = .bool b :: cs' ∧ CellsOk ks cs' := by
  match cs, h with
  | v :: vs, ⟨⟨b, e⟩, h2⟩ => exact ⟨b, vs, by rw [e], h2⟩
theorem CellsOk.nil {cs : List Value} (h : CellsOk [] cs) : cs = [] := by
  match cs, h with
  | [], _ => rfl

section
variable {H : Type} {enc : TypeId × Value → H} {P : Program} {w : World} {base : Nat} {spare : Nat → Bool} {held : Bool}

theorem structK_ok {K : TypeId → Option (List (Option IntKind))} {cs : List Value} : ∀ (fs : List Field) (off : Nat) (l : List (Option IntKind)), structK K P fs off = some l →
    (∀ f ∈ fs, ∀ k, K f.type = some k → CellsOk k ((cs.drop f.offset).take (P.cellsOf f.type))) → CellsOk l ((cs.drop off).take l.length)
  | [], off, l, h, _ => by
    simp [structK] at h
    subst h
    simp [CellsOk]
  | f :: fs, off, l, h, hf => by
    unfold structK at h
    split at h
    · rename_i ho
      split at h
      · rename_i k hk
        split at h
        · rename_i hl
          obtain ⟨l2, h2, rfl⟩ := Option.map_eq_some_iff.1 h
          have i1 := hf f (by simp) k hk
          have i2 := structK_ok fs _ l2 h2 fun g hg => hf g (by simp [hg])
          rw [ho, ← hl] at i1
          have e : (cs.drop off).take (k ++ l2).length = (cs.drop off).take k.length ++ (cs.drop (off + k.length)).take l2.length := by
            rw [List.length_append, List.take_add, List.drop_drop]
          rw [e]
          exact i1.append i2
        · cases h
      · cases h
    · cases h

theorem trod_cells : ∀ (d fuel : Nat) (t : TypeId) (ks : List (Option IntKind)) (cs : List Value) (x : DataW H × List MemPlace), kinds P d t = some ks →
    DataW.trod enc P w base spare held fuel t cs = some x → CellsOk ks cs
  | 0, _, _, _, _, _, h, _ => by cases h
  | d + 1, fuel, t, ks, cs, x, h, ht => by
    unfold kinds at h
    split at h
    · rename_i hu
      obtain ⟨b, rfl, _⟩ := DataW.trod_bool hu ht
      injection h with h; subst h
      exact ⟨⟨b, rfl⟩, trivial⟩
    · rename_i k hu
      obtain ⟨n, rfl, _, hw⟩ := DataW.trod_int hu ht
      injection h with h; subst h
      exact ⟨⟨n, rfl, hw⟩, trivial⟩
    · rename_i fs hu
      obtain ⟨xs, n, rfl, _, hl, hxl, hf⟩ := DataW.trod_struct hu ht
      split at h
      · rename_i l hs
        split at h
        · rename_i hll
          injection h with h; subst h
          have := structK_ok (cs := cs) (P := P) fs.toList 0 l hs fun f hfm k hk => by
            obtain ⟨i, hi, hfi⟩ := List.getElem_of_mem hfm
            have hi' : i < fs.size := by simpa using hi
            have hg : fs[i]? = some f := by rw [Array.getElem?_eq_getElem hi']; simpa using hfi
            have h1 := hf i f hg
            rw [List.getElem?_eq_getElem (by omega)] at h1
            exact trod_cells d n f.type k _ _ hk h1
          rw [hll, ← hl] at this
          simpa using this
        · cases h
      · cases h
    · cases h

theorem flat_cells {d : Nat} {t : TypeId} {ks : List (Option IntKind)} {v : Value} {x : DataW H} {p : List MemPlace} (hk : kinds P d t = some ks) (h : DataW.Trod enc P w base spare held t v x p) : CellsOk ks v.cells.toList := by
  obtain ⟨fuel, hf⟩ := h
  exact trod_cells d fuel t ks _ _ hk hf

theorem wf_i64' {n : Int} (h : (Lit.int .i64 n).wf = true) : i64 n := by
  simp [Lit.wf, IntKind.min, IntKind.max, IntKind.signed, IntKind.bits] at h
  exact ⟨by omega, by omega⟩
def u64 (n : Int) : Prop := 0 ≤ n ∧ n < 18446744073709551616
theorem wf_u64' {n : Int} (h : (Lit.int .u64 n).wf = true) : u64 n := by
  simp [Lit.wf, IntKind.min, IntKind.max, IntKind.signed, IntKind.bits] at h
  exact ⟨by omega, by omega⟩

theorem flat_int {t : TypeId} {r : Reach} {b0 : Nat} {v : Value} {x : DataW H} {p : List MemPlace} (ht : P.underlying t = some (.int .i64)) (hv : Value.okWide P w r b0 t v) (h : DataW.Trod enc P w base spare held t v x p) : ∃ n, v = (Value.int .i64) n ∧ i64 n := by
  obtain ⟨n, rfl, _, _, hw⟩ := open_int ht hv h
  exact ⟨n, rfl, wf_i64' hw⟩
theorem flat_u64 {t : TypeId} {r : Reach} {b0 : Nat} {v : Value} {x : DataW H} {p : List MemPlace} (ht : P.underlying t = some (.int .u64)) (hv : Value.okWide P w r b0 t v) (h : DataW.Trod enc P w base spare held t v x p) : ∃ n, v = .int .u64 n ∧ u64 n := by
  obtain ⟨n, rfl, _, _, hw⟩ := open_int ht hv h
  exact ⟨n, rfl, wf_u64' hw⟩
theorem flat_bool {t : TypeId} {r : Reach} {b0 : Nat} {v : Value} {x : DataW H} {p : List MemPlace} (ht : P.underlying t = some .bool) (hv : Value.okWide P w r b0 t v) (h : DataW.Trod enc P w base spare held t v x p) : ∃ b, v = Value.bool b := by
  obtain ⟨b, rfl, _, _⟩ := open_bool ht hv h
  exact ⟨b, rfl⟩

theorem cells_mp {cs : List Value} (h : CellsOk [some .i64, some .i64, some .i64, some .i64] cs) : ∃ x : Mp, cs = x.cells ∧ x.ok := by
  obtain ⟨a0, c0, rfl, w0, g0⟩ := h.int
  obtain ⟨a1, c1, rfl, w1, g1⟩ := g0.int
  obtain ⟨a2, c2, rfl, w2, g2⟩ := g1.int
  obtain ⟨a3, c3, rfl, w3, g3⟩ := g2.int
  obtain rfl := g3.nil
  exact ⟨⟨a0, a1, a2, a3⟩, rfl, wf_i64' w0, wf_i64' w1, wf_i64' w2, wf_i64' w3⟩
theorem cells_ac {cs : List Value} (h : CellsOk [some .i64, some .i64, none] cs) : ∃ x : Ac, cs = x.cells ∧ x.ok := by
  obtain ⟨a0, c0, rfl, w0, g0⟩ := h.int
  obtain ⟨a1, c1, rfl, w1, g1⟩ := g0.int
  obtain ⟨a2, c2, rfl, g2⟩ := g1.bool
  obtain rfl := g2.nil
  exact ⟨⟨a0, a1, a2⟩, rfl, wf_i64' w0, wf_i64' w1⟩
theorem cells_en {cs : List Value} (h : CellsOk [none, none, some .i64, none, none, some .i64] cs) : ∃ x : En, cs = x.cells ∧ x.ok := by
  obtain ⟨a0, c0, rfl, g0⟩ := h.bool
  obtain ⟨a1, c1, rfl, g1⟩ := g0.bool
  obtain ⟨a2, c2, rfl, w2, g2⟩ := g1.int
  obtain ⟨a3, c3, rfl, g3⟩ := g2.bool
  obtain ⟨a4, c4, rfl, g4⟩ := g3.bool
  obtain ⟨a5, c5, rfl, w5, g5⟩ := g4.int
  obtain rfl := g5.nil
  exact ⟨⟨a0, a1, a2, a3, a4, a5⟩, rfl, wf_i64' w2, wf_i64' w5⟩
/-- A struct by value. -/
theorem flat_agg {α : Type} {cells : α → List Value} {ok : α → Prop} {ks : List (Option IntKind)} (hd : ∀ cs, CellsOk ks cs → ∃ x : α, cs = cells x ∧ ok x) {d : Nat} {t : TypeId} {fs : Array Field} (hk : kinds P d t = some ks)
    (ht : P.underlying t = some (.struct fs)) {r : Reach} {b0 : Nat} {v : Value} {x : DataW H} {p : List MemPlace} (hv : Value.okWide P w r b0 t v) (h : DataW.Trod enc P w base spare held t v x p) : ∃ m : α, v = .agg (cells m).toArray ∧ ok m := by
  obtain ⟨cs, rfl, _⟩ := okWide_struct ht hv
  obtain ⟨m, hm, ho⟩ := hd _ (flat_cells hk h)
  refine ⟨m, ?_, ho⟩
  have : cs.toList = cells m := hm
  rw [← this]

theorem add_none (b off n : Nat) : ((⟨b, off, none⟩ : Addr).add n) = ⟨b, off + n, none⟩ := by
  unfold Addr.add
  split <;> simp_all

/-- A slice of plain structs (or of ints) that came in. -/
theorem open_arr {α : Type} {cells : α → List Value} {ok : α → Prop} {ks : List (Option IntKind)} (hd : ∀ cs, CellsOk ks cs → ∃ x : α, cs = cells x ∧ ok x) {d : Nat} {t e : TypeId} {size : Nat} (ht : P.underlying t = some (.slice e))
    (hk : kinds P d e = some ks) (hs : P.cellsOf e = size) (hpos : 0 < size) {A : Option Addr} {len cap : Nat} {x : DataW H} {p : List MemPlace} (h : DataW.Trod enc P w base spare held t (.slice A len cap) x p) :
    ∃ l : List α, Arr w A len size (l.map cells) ∧ ∀ y ∈ l, ok y := by
  obtain ⟨fuel, hf⟩ := h
  rcases open_slice ht hf with ⟨hcs, _⟩ | ⟨a, len', cap', m, n, D, Pl, hcs, _, hl, hm, hmm, _, hel⟩
  · simp [Value.cells] at hcs
    obtain ⟨rfl, rfl, rfl⟩ := hcs
    exact ⟨[], ⟨rfl, by omega, fun i xs hi => by simp at hi⟩, fun y hy => by cases hy⟩
  · simp [Value.cells] at hcs
    obtain ⟨rfl, rfl, rfl⟩ := hcs
    have hlm : len ≤ m := by rw [hmm]; split <;> omega
    have key : ∀ k, k ≤ len → ∃ l : List α, l.length = k ∧ (∀ y ∈ l, ok y) ∧ ∀ i y, l[i]? = some y → ∃ b off, a = ⟨b, off, none⟩ ∧ b < w.heap.size ∧ ∀ j u, (cells y)[j]? = some u → w.cell? ⟨b, off + i * size + j, none⟩ = some u := by
      intro k
      induction k with
      | zero => exact fun _ => ⟨[], rfl, (fun y hy => by cases hy), (fun i y hi => by simp at hi)⟩
      | succ k ih =>
        intro hk1
        obtain ⟨l, hll, hok, hcells⟩ := ih (by omega)
        obtain ⟨cs', hc1, hc2⟩ := hel k (by omega)
        obtain ⟨_, hcl, hat⟩ := World.cells?_some hc1
        obtain ⟨y, hy, hoy⟩ := hd _ (trod_cells d n e ks cs' _ hk hc2)
        refine ⟨l ++ [y], by simp [hll], fun z hz => ?_, fun i z hz => ?_⟩
        · rcases List.mem_append.1 hz with hz | hz
          · exact hok z hz
          · simp at hz; subst hz; exact hoy
        · rw [List.getElem?_append] at hz
          split at hz
          · exact hcells i z hz
          · rename_i hi
            have hik : i = k := by
              have := List.getElem?_eq_some_iff.1 hz
              obtain ⟨h1, _⟩ := this
              simp at h1
              omega
            subst hik
            rw [hll, Nat.sub_self] at hz
            simp at hz
            subst hz
            have h0 := hat 0 (by omega)
            rw [hs] at hat h0 hcl
            obtain ⟨b, off, spot⟩ := a
            have hspot : spot = none := by
              have h00 : ∃ u, (w.cell? (((⟨b, off, spot⟩ : Addr).add (0 * size)).add 0)) = some u := by
                obtain ⟨cs0, hd1, _⟩ := hel 0 (by omega)
                obtain ⟨_, hdl, hdat⟩ := World.cells?_some hd1
                have := hdat 0 (by omega)
                rw [hs] at this
                rw [this, List.getElem?_eq_getElem (by omega)]
                exact ⟨_, rfl⟩
              obtain ⟨u, hu⟩ := h00
              simpa [Addr.add] using World.cell?_spot hu
            subst hspot
            have hc : ∀ j u, (cells y)[j]? = some u → w.cell? ⟨b, off + i * size + j, none⟩ = some u := by
              intro j u hu
              have hj : j < size := by
                have := List.getElem?_eq_some_iff.1 hu
                obtain ⟨h1, _⟩ := this
                rw [← hy, hcl] at h1
                exact h1
              have := hat j hj
              rw [add_none, add_none, hy, hu] at this
              exact this
            refine ⟨b, off, rfl, ?_, hc⟩
            rw [add_none, add_none, List.getElem?_eq_getElem (by omega)] at h0
            exact World.block_lt_of_cell? w _ h0
    obtain ⟨l, hll, hok, hcells⟩ := key len (Nat.le_refl _)
    refine ⟨l, ⟨by simp [hll], by unfold maxLen at hm; omega, fun i xs hi => ?_⟩, hok⟩
    rw [List.getElem?_map] at hi
    obtain ⟨y, hy, rfl⟩ := Option.map_eq_some_iff.1 hi
    obtain ⟨b, off, rfl, hb, hc⟩ := hcells i y hy
    exact ⟨b, off, rfl, hb, hc⟩
end
end Go.Proofs.Ytndhgomikpokpaa

namespace Go.Proofs.Ytndhgomikpokpaa
open Go.RowKit

/-- A step of the laws on what is kept. -/
structure Lst where
  op : Int
  k : Int
  m : Mp
def Lst.cells (x : Lst) : List Value := [(Value.int .i64) x.op, (Value.int .i64) x.k, (Value.int .i64) x.m.page, (Value.int .i64) x.m.size, (Value.int .i64) x.m.frame, (Value.int .i64) x.m.rights]
def Lst.ok (x : Lst) : Prop := i64 x.op ∧ i64 x.k ∧ x.m.ok
theorem cells_lst {cs : List Value} (h : CellsOk [some .i64, some .i64, some .i64, some .i64, some .i64, some .i64] cs) : ∃ x : Lst, cs = x.cells ∧ x.ok := by
  obtain ⟨a, c1, rfl, wa, g1⟩ := h.int
  obtain ⟨b, c2, rfl, wb, g2⟩ := g1.int
  obtain ⟨c, c3, rfl, wc, g3⟩ := g2.int
  obtain ⟨d, c4, rfl, wd, g4⟩ := g3.int
  obtain ⟨e, c5, rfl, we, g5⟩ := g4.int
  obtain ⟨f, c6, rfl, wf, g6⟩ := g5.int
  obtain rfl := g6.nil
  exact ⟨⟨a, b, ⟨c, d, e, f⟩⟩, rfl, wf_i64' wa, wf_i64' wb, wf_i64' wc, wf_i64' wd, wf_i64' we, wf_i64' wf⟩
/-- A word. -/
def cellsU (n : Int) : List Value := [(Value.int .u64) n]
theorem cells_u64 {cs : List Value} (h : CellsOk [some .u64] cs) : ∃ n : Int, cs = cellsU n ∧ u64 n := by
  obtain ⟨a, c1, rfl, wa, g1⟩ := h.int
  obtain rfl := g1.nil
  exact ⟨a, rfl, wf_u64' wa⟩
/-- A step of a script. -/
structure Stp where
  kind : Int
  core : Int
  m : Mp
  a : Ac
def Stp.cells (x : Stp) : List Value := [(Value.int .i64) x.kind, (Value.int .i64) x.core, (Value.int .i64) x.m.page, (Value.int .i64) x.m.size, (Value.int .i64) x.m.frame, (Value.int .i64) x.m.rights, (Value.int .i64) x.a.page, (Value.int .i64) x.a.kind, Value.bool x.a.user]
def Stp.ok (x : Stp) : Prop := i64 x.kind ∧ i64 x.core ∧ x.m.ok ∧ x.a.ok
theorem cells_stp {cs : List Value} (h : CellsOk [some .i64, some .i64, some .i64, some .i64, some .i64, some .i64, some .i64, some .i64, none] cs) : ∃ x : Stp, cs = x.cells ∧ x.ok := by
  obtain ⟨a, c1, rfl, wa, g1⟩ := h.int
  obtain ⟨b, c2, rfl, wb, g2⟩ := g1.int
  obtain ⟨c, c3, rfl, wc, g3⟩ := g2.int
  obtain ⟨d, c4, rfl, wd, g4⟩ := g3.int
  obtain ⟨e, c5, rfl, we, g5⟩ := g4.int
  obtain ⟨f, c6, rfl, wf, g6⟩ := g5.int
  obtain ⟨p, c7, rfl, wp, g7⟩ := g6.int
  obtain ⟨k, c8, rfl, wk, g8⟩ := g7.int
  obtain ⟨u, c9, rfl, g9⟩ := g8.bool
  obtain rfl := g9.nil
  exact ⟨⟨a, b, ⟨c, d, e, f⟩, ⟨p, k, u⟩⟩, rfl, wf_i64' wa, wf_i64' wb, ⟨wf_i64' wc, wf_i64' wd, wf_i64' we, wf_i64' wf⟩, wf_i64' wp, wf_i64' wk⟩
/-- A step of the laws on walks. -/
structure Wst where
  op : Int
  k : Int
  i : Int
  w : Int
  a : Ac
def Wst.cells (x : Wst) : List Value := [(Value.int .i64) x.op, (Value.int .i64) x.k, (Value.int .i64) x.i, (Value.int .u64) x.w, (Value.int .i64) x.a.page, (Value.int .i64) x.a.kind, Value.bool x.a.user]
def Wst.ok (x : Wst) : Prop := i64 x.op ∧ i64 x.k ∧ i64 x.i ∧ u64 x.w ∧ x.a.ok
theorem cells_wst {cs : List Value} (h : CellsOk [some .i64, some .i64, some .i64, some .u64, some .i64, some .i64, none] cs) : ∃ x : Wst, cs = x.cells ∧ x.ok := by
  obtain ⟨a, c1, rfl, wa, g1⟩ := h.int
  obtain ⟨b, c2, rfl, wb, g2⟩ := g1.int
  obtain ⟨c, c3, rfl, wc, g3⟩ := g2.int
  obtain ⟨d, c4, rfl, wd, g4⟩ := g3.int
  obtain ⟨p, c7, rfl, wp, g7⟩ := g4.int
  obtain ⟨k, c8, rfl, wk, g8⟩ := g7.int
  obtain ⟨u, c9, rfl, g9⟩ := g8.bool
  obtain rfl := g9.nil
  exact ⟨⟨a, b, c, d, ⟨p, k, u⟩⟩, rfl, wf_i64' wa, wf_i64' wb, wf_i64' wc, wf_u64' wd, wf_i64' wp, wf_i64' wk⟩
end Go.Proofs.Ytndhgomikpokpaa
