/- Memories that differ in words of frames that are not in use alone: all that is told of them is the same. Plain law, with no program in sight. -/
import Derived.Test.YtegkimecdonfgaaWalkM2
import Derived.Test.YtegkimecdonfgaaSep
import Derived.ProofKit
import Derived.OpenShut
import Derived.ChangeOld
import Derived.Below
import Derived.Deep.Slices
import Derived.Test.YtegkimecdonfgaaProg
import Derived.Laws.StructEq
import Derived.KernelRfl
import Derived.Lib.Hide
import Derived.WalkSpells
import Derived.Outline
import Derived.BigQuiet
namespace Go.Proofs.Ytegkimecdonfgaa
open Go.RowKit
structure Agree (s s' : Ms) : Prop where
  n : s.n = s'.n
  tk : ∀ k, s.tk k = s'.tk k
  fr : s.frees = s'.frees
  wd : ∀ k i, s.tk k = true → s.wd k i = s'.wd k i
section
variable {s s' : Ms}
theorem Agree.refl (s : Ms) : Agree s s := ⟨rfl, fun _ => rfl, rfl, fun _ _ _ => rfl⟩
theorem Agree.symm (h : Agree s s') : Agree s' s := ⟨h.n.symm, fun k => (h.tk k).symm, h.fr.symm, fun k i ht => (h.wd k i (by rw [h.tk]; exact ht)).symm⟩
theorem Agree.trans {s2 : Ms} (h : Agree s s') (k : Agree s' s2) : Agree s s2 := ⟨h.n.trans k.n, fun j => (h.tk j).trans (k.tk j), h.fr.trans k.fr, fun j i ht => (h.wd j i ht).trans (k.wd j i (by rw [← h.tk]; exact ht))⟩
theorem Agree.has (h : Agree s s') (k : Int) : s.has k = s'.has k := by
  unfold Ms.has
  rw [h.n, h.tk]
theorem Agree.word (h : Agree s s') {t : Int} (ht : s.has t = true) (i : Int) : wordV s t i = wordV s' t i := h.wd _ _ (Ms.has_iff.1 ht).2.2
theorem Agree.wayStep (h : Agree s s') (p : Int) (L : Nat) (t : Int) (acc : List Int) {f g : Int → Wy} (hfg : ∀ x, f x = g x) : wayStep s p L t acc f = wayStep s' p L t acc g := by
  unfold Go.Proofs.Ytegkimecdonfgaa.wayStep
  rw [← h.has t]
  cases ht : s.has t with
  | false => rfl
  | true => rw [h.word ht, hfg]
theorem Agree.wayA (h : Agree s s') (p : Int) : ∀ (L : Nat) (t : Int) (acc : List Int), wayA s p L t acc = wayA s' p L t acc
  | 0, t, acc => h.wayStep p 0 t acc fun _ => rfl
  | L + 1, t, acc => h.wayStep p (L + 1) t acc fun _ => Agree.wayA h p L _ _
theorem Agree.way (h : Agree s s') (r p : Int) : way s r p = way s' r p := by
  unfold Go.Proofs.Ytegkimecdonfgaa.way
  rw [h.wayA p 3 r []]
theorem Agree.scanV (h : Agree s s') (L : Nat) {t : Int} (ht : s.has t = true) (a : Int) {f g : Int → Int → Vs} (hfg : ∀ x y, f x y = g x y) : ∀ is : List Nat, scanV s L t a f is = scanV s' L t a g is
  | [] => rfl
  | i :: is => by
    unfold Go.Proofs.Ytegkimecdonfgaa.scanV
    rw [h.word ht, Agree.scanV h L ht a hfg is]
    simp only [hfg]
theorem Agree.eachV (h : Agree s s') : ∀ (L : Nat) (t a : Int), eachV s L t a = eachV s' L t a
  | 0, t, a => by
    unfold Go.Proofs.Ytegkimecdonfgaa.eachV
    rw [← h.has t]
    cases ht : s.has t with
    | false => rfl
    | true => rw [if_neg (by simp), if_neg (by simp)]; exact h.scanV 0 ht a (fun _ _ => rfl) _
  | L + 1, t, a => by
    unfold Go.Proofs.Ytegkimecdonfgaa.eachV
    rw [← h.has t]
    cases ht : s.has t with
    | false => rfl
    | true => rw [if_neg (by simp), if_neg (by simp)]; exact h.scanV (L + 1) ht a (fun x y => Agree.eachV h L x y) _
theorem Agree.top (h : Agree s s') : s.top = s'.top := by rw [← Ms.frees_top, ← Ms.frees_top, h.fr]
theorem Agree.setW (h : Agree s s') (k i : Nat) (v : Int) : Agree (s.setW k i v) (s'.setW k i v) :=
  ⟨h.n, h.tk, h.fr, fun a b ht => by
    show (if a = k ∧ b = i then v else s.wd a b) = (if a = k ∧ b = i then v else s'.wd a b)
    rw [h.wd a b ht]⟩
theorem Agree.findC (h : Agree s s') (r p : Int) : findC s r p = findC s' r p := by unfold Go.Proofs.Ytegkimecdonfgaa.findC; rw [h.way r p]
theorem Agree.findM (h : Agree s s') (r p : Int) : findM s r p = findM s' r p := by unfold Go.Proofs.Ytegkimecdonfgaa.findM; rw [h.way r p, h.findC r p]
theorem Agree.findE (h : Agree s s') (r p : Int) : findE s r p = findE s' r p := by unfold Go.Proofs.Ytegkimecdonfgaa.findE; rw [h.way r p, h.findC r p]
theorem Agree.insC (h : Agree s s') (r : Int) (x : Mp) : insC s r x = insC s' r x := by unfold Go.Proofs.Ytegkimecdonfgaa.insC; rw [h.way r x.page, h.fr]
end
end Go.Proofs.Ytegkimecdonfgaa
namespace Go.Proofs.Ytegkimecdonfgaa
open Go.ChangeShapes Go.WideShapes Go.ChangeAt Go.RowKit Go.Deep
/-- The cells of a plain type, in a row: an int kind, or a bool. -/
def structK (K : TypeId → Option (List (Option IntKind))) (P : Program) : List Field → Nat → Option (List (Option IntKind))
  | [], _ => some []
  | f :: fs, off =>
    if f.offset = off then
      match K f.type with
      | some l => if l.length = P.cellsOf f.type then (structK K P fs (off + l.length)).map (l ++ ·) else none
      | none => none
    else none
def kinds (P : Program) : Nat → TypeId → Option (List (Option IntKind))
  | 0, _ => none
  | d + 1, t =>
    match P.underlying t with
    | some .bool => some [none]
    | some (.int k) => some [some k]
    | some (.struct fs) =>
      match structK (kinds P d) P fs.toList 0 with
      | some l => if l.length = P.cellsOf t then some l else none
      | none => none
    | _ => none
def CellsOk : List (Option IntKind) → List Value → Prop
  | [], [] => True
  | none :: ks, v :: vs => (∃ b, v = .bool b) ∧ CellsOk ks vs
  | some k :: ks, v :: vs => (∃ n, v = .int k n ∧ (Lit.int k n).wf = true) ∧ CellsOk ks vs
  | _, _ => False
theorem CellsOk.append : ∀ {k1 k2 : List (Option IntKind)} {c1 c2 : List Value}, CellsOk k1 c1 → CellsOk k2 c2 → CellsOk (k1 ++ k2) (c1 ++ c2)
  | [], _, [], _, _, h2 => h2
  | [], _, _ :: _, _, h1, _ => h1.elim
  | none :: _, _, _ :: _, _, h1, h2 => ⟨h1.1, h1.2.append h2⟩
  | some _ :: _, _, _ :: _, _, h1, h2 => ⟨h1.1, h1.2.append h2⟩
  | none :: _, _, [], _, h1, _ => h1.elim
  | some _ :: _, _, [], _, h1, _ => h1.elim
theorem CellsOk.int {k : IntKind} {ks : List (Option IntKind)} {cs : List Value} (h : CellsOk (some k :: ks) cs) : ∃ n cs', cs = .int k n :: cs' ∧ (Lit.int k n).wf = true ∧ CellsOk ks cs' := by
  match cs, h with
  | v :: vs, ⟨⟨n, e, hw⟩, h2⟩ => exact ⟨n, vs, by rw [e], hw, h2⟩
theorem CellsOk.bool {ks : List (Option IntKind)} {cs : List Value} (h : CellsOk (none :: ks) cs) : ∃ b cs', cs = .bool b :: cs' ∧ CellsOk ks cs' := by
  match cs, h with
  | v :: vs, ⟨⟨b, e⟩, h2⟩ => exact ⟨b, vs, by rw [e], h2⟩
theorem CellsOk.nil {cs : List Value} (h : CellsOk [] cs) : cs = [] := by
  match cs, h with
  | [], _ => rfl
section
variable {H : Type} {enc : TypeId × Value → H} {P : Program} {w : World} {base : Nat} {spare : Nat → Bool} {held : Bool}
theorem structK_ok {K : TypeId → Option (List (Option IntKind))} {cs : List Value} : ∀ (fs : List Field) (off : Nat) (l : List (Option IntKind)), structK K P fs off = some l →
    (∀ f ∈ fs, ∀ k, K f.type = some k → CellsOk k ((cs.drop f.offset).take (P.cellsOf f.type))) → CellsOk l ((cs.drop off).take l.length)
  | [], off, l, h, _ => by
    simp [structK] at h
    subst h
    simp [CellsOk]
  | f :: fs, off, l, h, hf => by
    unfold structK at h
    split at h
    · rename_i ho
      split at h
      · rename_i k hk
        split at h
        · rename_i hl
          obtain ⟨l2, h2, rfl⟩ := Option.map_eq_some_iff.1 h
          have i1 := hf f (by simp) k hk
          have i2 := structK_ok fs _ l2 h2 fun g hg => hf g (by simp [hg])
          rw [ho, ← hl] at i1
          have e : (cs.drop off).take (k ++ l2).length = (cs.drop off).take k.length ++ (cs.drop (off + k.length)).take l2.length := by
            rw [List.length_append, List.take_add, List.drop_drop]
          rw [e]
          exact i1.append i2
        · cases h
      · cases h
    · cases h
theorem trod_cells : ∀ (d fuel : Nat) (t : TypeId) (ks : List (Option IntKind)) (cs : List Value) (x : DataW H × List MemPlace), kinds P d t = some ks →
    DataW.trod enc P w base spare held fuel t cs = some x → CellsOk ks cs
  | 0, _, _, _, _, _, h, _ => by cases h
  | d + 1, fuel, t, ks, cs, x, h, ht => by
    unfold kinds at h
    split at h
    · rename_i hu
      obtain ⟨b, rfl, _⟩ := DataW.trod_bool hu ht
      injection h with h; subst h
      exact ⟨⟨b, rfl⟩, trivial⟩
    · rename_i k hu
      obtain ⟨n, rfl, _, hw⟩ := DataW.trod_int hu ht
      injection h with h; subst h
      exact ⟨⟨n, rfl, hw⟩, trivial⟩
    · rename_i fs hu
      obtain ⟨xs, n, rfl, _, hl, hxl, hf⟩ := DataW.trod_struct hu ht
      split at h
      · rename_i l hs
        split at h
        · rename_i hll
          injection h with h; subst h
          have := structK_ok (cs := cs) (P := P) fs.toList 0 l hs fun f hfm k hk => by
            obtain ⟨i, hi, hfi⟩ := List.getElem_of_mem hfm
            have hi' : i < fs.size := by simpa using hi
            have hg : fs[i]? = some f := by rw [Array.getElem?_eq_getElem hi']; simpa using hfi
            have h1 := hf i f hg
            rw [List.getElem?_eq_getElem (by omega)] at h1
            exact trod_cells d n f.type k _ _ hk h1
          rw [hll, ← hl] at this
          simpa using this
        · cases h
      · cases h
    · cases h
theorem wf_i64' {n : Int} (h : (Lit.int .i64 n).wf = true) : i64 n := by
  simp [Lit.wf, IntKind.min, IntKind.max, IntKind.signed, IntKind.bits] at h
  exact ⟨by omega, by omega⟩
def u64 (n : Int) : Prop := 0 ≤ n ∧ n < 18446744073709551616
theorem flat_int {t : TypeId} {r : Reach} {b0 : Nat} {v : Value} {x : DataW H} {p : List MemPlace} (ht : P.underlying t = some (.int .i64)) (hv : Value.okWide P w r b0 t v) (h : DataW.Trod enc P w base spare held t v x p) : ∃ n, v = (Value.int .i64) n ∧ i64 n := by
  obtain ⟨n, rfl, _, _, hw⟩ := open_int ht hv h
  exact ⟨n, rfl, wf_i64' hw⟩
theorem add_none (b off n : Nat) : ((⟨b, off, none⟩ : Addr).add n) = ⟨b, off + n, none⟩ := by
  unfold Addr.add
  split <;> simp_all
/-- A slice of plain structs (or of ints) that came in. -/
theorem open_arr {α : Type} {cells : α → List Value} {ok : α → Prop} {ks : List (Option IntKind)} (hd : ∀ cs, CellsOk ks cs → ∃ x : α, cs = cells x ∧ ok x) {d : Nat} {t e : TypeId} {size : Nat} (ht : P.underlying t = some (.slice e))
    (hk : kinds P d e = some ks) (hs : P.cellsOf e = size) (hpos : 0 < size) {A : Option Addr} {len cap : Nat} {x : DataW H} {p : List MemPlace} (h : DataW.Trod enc P w base spare held t (.slice A len cap) x p) :
    ∃ l : List α, Arr w A len size (l.map cells) ∧ ∀ y ∈ l, ok y := by
  obtain ⟨fuel, hf⟩ := h
  rcases open_slice ht hf with ⟨hcs, _⟩ | ⟨a, len', cap', m, n, D, Pl, hcs, _, hl, hm, hmm, _, hel⟩
  · simp [Value.cells] at hcs
    obtain ⟨rfl, rfl, rfl⟩ := hcs
    exact ⟨[], ⟨rfl, by omega, fun i xs hi => by simp at hi⟩, fun y hy => by cases hy⟩
  · simp [Value.cells] at hcs
    obtain ⟨rfl, rfl, rfl⟩ := hcs
    have hlm : len ≤ m := by rw [hmm]; split <;> omega
    have key : ∀ k, k ≤ len → ∃ l : List α, l.length = k ∧ (∀ y ∈ l, ok y) ∧ ∀ i y, l[i]? = some y → ∃ b off, a = ⟨b, off, none⟩ ∧ b < w.heap.size ∧ ∀ j u, (cells y)[j]? = some u → w.cell? ⟨b, off + i * size + j, none⟩ = some u := by
      intro k
      induction k with
      | zero => exact fun _ => ⟨[], rfl, (fun y hy => by cases hy), (fun i y hi => by simp at hi)⟩
      | succ k ih =>
        intro hk1
        obtain ⟨l, hll, hok, hcells⟩ := ih (by omega)
        obtain ⟨cs', hc1, hc2⟩ := hel k (by omega)
        obtain ⟨_, hcl, hat⟩ := World.cells?_some hc1
        obtain ⟨y, hy, hoy⟩ := hd _ (trod_cells d n e ks cs' _ hk hc2)
        refine ⟨l ++ [y], by simp [hll], fun z hz => ?_, fun i z hz => ?_⟩
        · rcases List.mem_append.1 hz with hz | hz
          · exact hok z hz
          · simp at hz; subst hz; exact hoy
        · rw [List.getElem?_append] at hz
          split at hz
          · exact hcells i z hz
          · rename_i hi
            have hik : i = k := by
              have := List.getElem?_eq_some_iff.1 hz
              obtain ⟨h1, _⟩ := this
              simp at h1
              omega
            subst hik
            rw [hll, Nat.sub_self] at hz
            simp at hz
            subst hz
            have h0 := hat 0 (by omega)
            rw [hs] at hat h0 hcl
            obtain ⟨b, off, spot⟩ := a
            have hspot : spot = none := by
              have h00 : ∃ u, (w.cell? (((⟨b, off, spot⟩ : Addr).add (0 * size)).add 0)) = some u := by
                obtain ⟨cs0, hd1, _⟩ := hel 0 (by omega)
                obtain ⟨_, hdl, hdat⟩ := World.cells?_some hd1
                have := hdat 0 (by omega)
                rw [hs] at this
                rw [this, List.getElem?_eq_getElem (by omega)]
                exact ⟨_, rfl⟩
              obtain ⟨u, hu⟩ := h00
              simpa [Addr.add] using World.cell?_spot hu
            subst hspot
            have hc : ∀ j u, (cells y)[j]? = some u → w.cell? ⟨b, off + i * size + j, none⟩ = some u := by
              intro j u hu
              have hj : j < size := by
                have := List.getElem?_eq_some_iff.1 hu
                obtain ⟨h1, _⟩ := this
                rw [← hy, hcl] at h1
                exact h1
              have := hat j hj
              rw [add_none, add_none, hy, hu] at this
              exact this
            refine ⟨b, off, rfl, ?_, hc⟩
            rw [add_none, add_none, List.getElem?_eq_getElem (by omega)] at h0
            exact World.block_lt_of_cell? w _ h0
    obtain ⟨l, hll, hok, hcells⟩ := key len (Nat.le_refl _)
    refine ⟨l, ⟨by simp [hll], by unfold maxLen at hm; omega, fun i xs hi => ?_⟩, hok⟩
    rw [List.getElem?_map] at hi
    obtain ⟨y, hy, rfl⟩ := Option.map_eq_some_iff.1 hi
    obtain ⟨b, off, rfl, hb, hc⟩ := hcells i y hy
    exact ⟨b, off, rfl, hb, hc⟩
end
end Go.Proofs.Ytegkimecdonfgaa
namespace Go.Proofs.Ytegkimecdonfgaa
open Go.RowKit
set_option maxRecDepth 100000
theorem eqMapD (d : Nat) (a0 b0 : Int) (a1 b1 : Int) (a2 b2 : Int) (a3 b3 : Int) (w : World) : (Op.equalIn (d + 2) 24 (.agg #[(Value.int .i64) a0, (Value.int .i64) a1, (Value.int .i64) a2, (Value.int .i64) a3]) (.agg #[(Value.int .i64) b0, (Value.int .i64) b1, (Value.int .i64) b2, (Value.int .i64) b3])).run Try.prog w = .ok (a0 == b0 && (a1 == b1 && (a2 == b2 && (a3 == b3)))) w := by
  have ui := Try.underlying3
  have ci := Try.isAgg3
  have zi := Try.sizeOf3
  have hS : Try.prog.underlying 24 = some (.struct (Try.prog.fieldsOf 24)) := by kernel_rfl
  have hp : Try.prog.stoodInHeld 24 = false := by kernel_rfl
  rw [show d + 2 = (d + 1) + 1 from rfl, run_equalIn_agg w (d + 1) 24 _ _ hS hp]
  simp only [Program.fieldsOf, Try.underlying24]
  go_simp
  by_cases h0 : a0 = b0
  · skip
    by_cases h1 : a1 = b1
    · skip
      by_cases h2 : a2 = b2
      · skip
        by_cases h3 : a3 = b3
        · skip
          simp [h0, h1, h2, h3]
        · simp [h0, h1, h2, h3]
      · simp [h0, h1, h2]
    · simp [h0, h1]
  · simp [h0]
@[go_sem] theorem eqMap (a0 b0 : Int) (a1 b1 : Int) (a2 b2 : Int) (a3 b3 : Int) (w : World) : (Op.equalIn 10000 24 (.agg #[(Value.int .i64) a0, (Value.int .i64) a1, (Value.int .i64) a2, (Value.int .i64) a3]) (.agg #[(Value.int .i64) b0, (Value.int .i64) b1, (Value.int .i64) b2, (Value.int .i64) b3])).run Try.prog w = .ok (a0 == b0 && (a1 == b1 && (a2 == b2 && (a3 == b3)))) w := eqMapD 9998 a0 b0 a1 b1 a2 b2 a3 b3 w
@[go_sem] theorem guardMap : Try.prog.eqGuardType Try.prog.depth 24 = false := by kernel_rfl
theorem eqAccessD (d : Nat) (a0 b0 : Int) (a1 b1 : Int) (a2 b2 : Bool) (w : World) : (Op.equalIn (d + 2) 26 (.agg #[(Value.int .i64) a0, (Value.int .i64) a1, Value.bool a2]) (.agg #[(Value.int .i64) b0, (Value.int .i64) b1, Value.bool b2])).run Try.prog w = .ok (a0 == b0 && (a1 == b1 && (a2 == b2))) w := by
  have ub := Try.underlying4
  have cb := Try.isAgg4
  have zb := Try.sizeOf4
  have ui := Try.underlying3
  have ci := Try.isAgg3
  have zi := Try.sizeOf3
  have hS : Try.prog.underlying 26 = some (.struct (Try.prog.fieldsOf 26)) := by kernel_rfl
  have hp : Try.prog.stoodInHeld 26 = false := by kernel_rfl
  rw [show d + 2 = (d + 1) + 1 from rfl, run_equalIn_agg w (d + 1) 26 _ _ hS hp]
  simp only [Program.fieldsOf, Try.underlying26]
  go_simp
  by_cases h0 : a0 = b0
  · skip
    by_cases h1 : a1 = b1
    · skip
      by_cases h2 : a2 = b2
      · skip
        simp [h0, h1, h2]
      · simp [h0, h1, h2]
    · simp [h0, h1]
  · simp [h0]
@[go_sem] theorem eqAccess (a0 b0 : Int) (a1 b1 : Int) (a2 b2 : Bool) (w : World) : (Op.equalIn 10000 26 (.agg #[(Value.int .i64) a0, (Value.int .i64) a1, Value.bool a2]) (.agg #[(Value.int .i64) b0, (Value.int .i64) b1, Value.bool b2])).run Try.prog w = .ok (a0 == b0 && (a1 == b1 && (a2 == b2))) w := eqAccessD 9998 a0 b0 a1 b1 a2 b2 w
@[go_sem] theorem guardAccess : Try.prog.eqGuardType Try.prog.depth 26 = false := by kernel_rfl
theorem eqAnswerD (d : Nat) (a0 b0 : Int) (a1 b1 : Int) (a2 b2 : Int) (w : World) : (Op.equalIn (d + 2) 87 (.agg #[(Value.int .i64) a0, (Value.int .i64) a1, (Value.int .i64) a2]) (.agg #[(Value.int .i64) b0, (Value.int .i64) b1, (Value.int .i64) b2])).run Try.prog w = .ok (a0 == b0 && (a1 == b1 && (a2 == b2))) w := by
  have ui := Try.underlying3
  have ci := Try.isAgg3
  have zi := Try.sizeOf3
  have hS : Try.prog.underlying 87 = some (.struct (Try.prog.fieldsOf 87)) := by kernel_rfl
  have hp : Try.prog.stoodInHeld 87 = false := by kernel_rfl
  rw [show d + 2 = (d + 1) + 1 from rfl, run_equalIn_agg w (d + 1) 87 _ _ hS hp]
  simp only [Program.fieldsOf, Try.underlying87]
  go_simp
  by_cases h0 : a0 = b0
  · skip
    by_cases h1 : a1 = b1
    · skip
      by_cases h2 : a2 = b2
      · skip
        simp [h0, h1, h2]
      · simp [h0, h1, h2]
    · simp [h0, h1]
  · simp [h0]
@[go_sem] theorem eqAnswer (a0 b0 : Int) (a1 b1 : Int) (a2 b2 : Int) (w : World) : (Op.equalIn 10000 87 (.agg #[(Value.int .i64) a0, (Value.int .i64) a1, (Value.int .i64) a2]) (.agg #[(Value.int .i64) b0, (Value.int .i64) b1, (Value.int .i64) b2])).run Try.prog w = .ok (a0 == b0 && (a1 == b1 && (a2 == b2))) w := eqAnswerD 9998 a0 b0 a1 b1 a2 b2 w
@[go_sem] theorem guardAnswer : Try.prog.eqGuardType Try.prog.depth 87 = false := by kernel_rfl
theorem eqEntryD (d : Nat) (a0 b0 : Bool) (a1 b1 : Bool) (a2 b2 : Int) (a3 b3 : Bool) (a4 b4 : Bool) (a5 b5 : Int) (w : World) : (Op.equalIn (d + 2) 50 (.agg #[Value.bool a0, Value.bool a1, (Value.int .i64) a2, Value.bool a3, Value.bool a4, (Value.int .i64) a5]) (.agg #[Value.bool b0, Value.bool b1, (Value.int .i64) b2, Value.bool b3, Value.bool b4, (Value.int .i64) b5])).run Try.prog w = .ok (a0 == b0 && (a1 == b1 && (a2 == b2 && (a3 == b3 && (a4 == b4 && (a5 == b5)))))) w := by
  have ub := Try.underlying4
  have cb := Try.isAgg4
  have zb := Try.sizeOf4
  have ui := Try.underlying3
  have ci := Try.isAgg3
  have zi := Try.sizeOf3
  have hS : Try.prog.underlying 50 = some (.struct (Try.prog.fieldsOf 50)) := by kernel_rfl
  have hp : Try.prog.stoodInHeld 50 = false := by kernel_rfl
  rw [show d + 2 = (d + 1) + 1 from rfl, run_equalIn_agg w (d + 1) 50 _ _ hS hp]
  simp only [Program.fieldsOf, Try.underlying50]
  go_simp
  by_cases h0 : a0 = b0
  · skip
    by_cases h1 : a1 = b1
    · skip
      by_cases h2 : a2 = b2
      · skip
        by_cases h3 : a3 = b3
        · skip
          by_cases h4 : a4 = b4
          · skip
            by_cases h5 : a5 = b5
            · skip
              simp [h0, h1, h2, h3, h4, h5]
            · simp [h0, h1, h2, h3, h4, h5]
          · simp [h0, h1, h2, h3, h4]
        · simp [h0, h1, h2, h3]
      · simp [h0, h1, h2]
    · simp [h0, h1]
  · simp [h0]
@[go_sem] theorem eqEntry (a0 b0 : Bool) (a1 b1 : Bool) (a2 b2 : Int) (a3 b3 : Bool) (a4 b4 : Bool) (a5 b5 : Int) (w : World) : (Op.equalIn 10000 50 (.agg #[Value.bool a0, Value.bool a1, (Value.int .i64) a2, Value.bool a3, Value.bool a4, (Value.int .i64) a5]) (.agg #[Value.bool b0, Value.bool b1, (Value.int .i64) b2, Value.bool b3, Value.bool b4, (Value.int .i64) b5])).run Try.prog w = .ok (a0 == b0 && (a1 == b1 && (a2 == b2 && (a3 == b3 && (a4 == b4 && (a5 == b5)))))) w := eqEntryD 9998 a0 b0 a1 b1 a2 b2 a3 b3 a4 b4 a5 b5 w
@[go_sem] theorem guardEntry : Try.prog.eqGuardType Try.prog.depth 50 = false := by kernel_rfl
theorem eqFaultD (d : Nat) (a0 b0 : Int) (a1 b1 : Int) (w : World) : (Op.equalIn (d + 2) 83 (.agg #[(Value.int .i64) a0, (Value.int .i64) a1]) (.agg #[(Value.int .i64) b0, (Value.int .i64) b1])).run Try.prog w = .ok (a0 == b0 && (a1 == b1)) w := by
  have ui := Try.underlying3
  have ci := Try.isAgg3
  have zi := Try.sizeOf3
  have hS : Try.prog.underlying 83 = some (.struct (Try.prog.fieldsOf 83)) := by kernel_rfl
  have hp : Try.prog.stoodInHeld 83 = false := by kernel_rfl
  rw [show d + 2 = (d + 1) + 1 from rfl, run_equalIn_agg w (d + 1) 83 _ _ hS hp]
  simp only [Program.fieldsOf, Try.underlying83]
  go_simp
  by_cases h0 : a0 = b0
  · skip
    by_cases h1 : a1 = b1
    · skip
      simp [h0, h1]
    · simp [h0, h1]
  · simp [h0]
@[go_sem] theorem eqFault (a0 b0 : Int) (a1 b1 : Int) (w : World) : (Op.equalIn 10000 83 (.agg #[(Value.int .i64) a0, (Value.int .i64) a1]) (.agg #[(Value.int .i64) b0, (Value.int .i64) b1])).run Try.prog w = .ok (a0 == b0 && (a1 == b1)) w := eqFaultD 9998 a0 b0 a1 b1 w
@[go_sem] theorem guardFault : Try.prog.eqGuardType Try.prog.depth 83 = false := by kernel_rfl
@[go_sem] theorem eqBool4 (a0 b0 : Bool) (a1 b1 : Bool) (a2 b2 : Bool) (a3 b3 : Bool) (w : World) : (Op.equalIn 10000 166 (.agg #[Value.bool a0, Value.bool a1, Value.bool a2, Value.bool a3]) (.agg #[Value.bool b0, Value.bool b1, Value.bool b2, Value.bool b3])).run Try.prog w = .ok (a0 == b0 && (a1 == b1 && (a2 == b2 && (a3 == b3)))) w := by
  have u3 := Try.underlying4
  have c3 := Try.isAgg4
  have z3 := Try.sizeOf4
  rw [show (10000 : Nat) = 9999 + 1 from rfl, Op.equalIn]
  simp only [Sem.run_bind, run_underlying Try.underlying166, Result.andThen_ok]
  simp only [Std.Legacy.Range.forIn_eq_forIn_range', Std.Legacy.Range.size, Nat.sub_zero, Nat.add_sub_cancel, Nat.div_one, List.range'_succ, List.range'_zero, List.forIn_cons, List.forIn_nil]
  go_simp
  by_cases h0 : a0 = b0
  · skip
    by_cases h1 : a1 = b1
    · skip
      by_cases h2 : a2 = b2
      · skip
        by_cases h3 : a3 = b3
        · skip
          simp [h0, h1, h2, h3]
        · simp [h0, h1, h2, h3]
      · simp [h0, h1, h2]
    · simp [h0, h1]
  · simp [h0]
@[go_sem] theorem guardBool4 : Try.prog.eqGuardType Try.prog.depth 166 = false := by kernel_rfl
@[go_sem] theorem eqU8 (a0 b0 : Int) (a1 b1 : Int) (a2 b2 : Int) (a3 b3 : Int) (a4 b4 : Int) (a5 b5 : Int) (a6 b6 : Int) (a7 b7 : Int) (w : World) : (Op.equalIn 10000 100 (.agg #[(Value.int .u64) a0, (Value.int .u64) a1, (Value.int .u64) a2, (Value.int .u64) a3, (Value.int .u64) a4, (Value.int .u64) a5, (Value.int .u64) a6, (Value.int .u64) a7]) (.agg #[(Value.int .u64) b0, (Value.int .u64) b1, (Value.int .u64) b2, (Value.int .u64) b3, (Value.int .u64) b4, (Value.int .u64) b5, (Value.int .u64) b6, (Value.int .u64) b7])).run Try.prog w = .ok (a0 == b0 && (a1 == b1 && (a2 == b2 && (a3 == b3 && (a4 == b4 && (a5 == b5 && (a6 == b6 && (a7 == b7)))))))) w := by
  have u3 := Try.underlying59
  have c3 := Try.isAgg59
  have z3 := Try.sizeOf59
  rw [show (10000 : Nat) = 9999 + 1 from rfl, Op.equalIn]
  simp only [Sem.run_bind, run_underlying Try.underlying100, Result.andThen_ok]
  simp only [Std.Legacy.Range.forIn_eq_forIn_range', Std.Legacy.Range.size, Nat.sub_zero, Nat.add_sub_cancel, Nat.div_one, List.range'_succ, List.range'_zero, List.forIn_cons, List.forIn_nil]
  go_simp
  by_cases h0 : a0 = b0
  · skip
    by_cases h1 : a1 = b1
    · skip
      by_cases h2 : a2 = b2
      · skip
        by_cases h3 : a3 = b3
        · skip
          by_cases h4 : a4 = b4
          · skip
            by_cases h5 : a5 = b5
            · skip
              by_cases h6 : a6 = b6
              · skip
                by_cases h7 : a7 = b7
                · skip
                  simp [h0, h1, h2, h3, h4, h5, h6, h7]
                · simp [h0, h1, h2, h3, h4, h5, h6, h7]
              · simp [h0, h1, h2, h3, h4, h5, h6]
            · simp [h0, h1, h2, h3, h4, h5]
          · simp [h0, h1, h2, h3, h4]
        · simp [h0, h1, h2, h3]
      · simp [h0, h1, h2]
    · simp [h0, h1]
  · simp [h0]
@[go_sem] theorem guardU8 : Try.prog.eqGuardType Try.prog.depth 100 = false := by kernel_rfl
end Go.Proofs.Ytegkimecdonfgaa
namespace Go.Proofs.Ytegkimecdonfgaa
open Go.RowKit
set_option maxRecDepth 100000
/-- The cells of the tables: of each whether it is in use, and its words. -/
def fc (s : Ms) : Nat → Value := fun j => if j % 9 = 0 then Value.bool (s.tk (j / 9)) else (Value.int .u64) (s.wd (j / 9) (j % 9 - 1))
theorem fc_tk (s : Ms) (k : Nat) : fc s (k * 9) = Value.bool (s.tk k) := by
  unfold fc
  rw [if_pos (by omega), show k * 9 / 9 = k by omega]
theorem fc_wd (s : Ms) (k i : Nat) (h : i < 8) : fc s (k * 9 + 1 + i) = (Value.int .u64) (s.wd k i) := by
  unfold fc
  rw [if_neg (by omega), show (k * 9 + 1 + i) / 9 = k by omega, show (k * 9 + 1 + i) % 9 - 1 = i by omega]
/-- The ints of a list of numbers. -/
def ints (l : List Nat) : List Value := l.map fun (k : Nat) => (Value.int .i64) (k : Int)
/-- Frames at block p, its tables at block g, the free ones' slice vf. -/
def framesIn (p g : Nat) (vf : Value) (s : Ms) (R : HProp) : HProp :=
  blk p #[.slice (some ⟨g, 0, none⟩) s.n s.n, vf] 124 * (blk g (tabA (s.n * 9) (fc s)) 121 * (row 3 1 vf s.frees.length (ints s.frees) * R))
def framesAt (p : Nat) (s : Ms) : HProp := ex fun g => ex fun vf => framesIn p g vf s (lift True)
theorem star_true (R : HProp) : lift True * R = R := by
  funext h
  apply propext
  constructor
  · rintro ⟨h1, h2, d, rfl, ⟨_, rfl⟩, q⟩
    have : Hpm.union Hpm.emp h2 = h2 := by funext b; simp [Hpm.union, Hpm.emp]
    rw [this]
    exact q
  · intro q
    exact ⟨Hpm.emp, h, fun b => .inl rfl, by funext b; simp [Hpm.union, Hpm.emp], ⟨trivial, rfl⟩, q⟩
theorem framesAt_open {p : Nat} {s : Ms} {R : HProp} {w : World} (h : Has w (framesAt p s * R)) : ∃ g vf, Has w (framesIn p g vf s R) := by
  unfold framesAt at h
  obtain ⟨g, h⟩ := has_ex_star.1 h
  obtain ⟨vf, h⟩ := has_ex_star.1 h
  refine ⟨g, vf, ?_⟩
  unfold framesIn at h ⊢
  simpa only [star_assoc, star_true] using h
theorem framesAt_shut {p g : Nat} {vf : Value} {s : Ms} {R : HProp} {w : World} (h : Has w (framesIn p g vf s R)) : Has w (framesAt p s * R) := by
  unfold framesAt
  refine has_ex_star.2 ⟨g, has_ex_star.2 ⟨vf, ?_⟩⟩
  unfold framesIn at h ⊢
  simpa only [star_assoc, star_true] using h
theorem has_no {s : Ms} {k : Int} (h : ¬ (0 ≤ k ∧ k < s.n)) : s.has k = false := by
  unfold Ms.has
  by_cases h0 : 0 ≤ k <;> by_cases h4 : k < s.n <;> simp [h0, h4]
  omega
theorem has_yes {s : Ms} {k : Nat} (h : k < s.n) : s.has k = s.tk k := by
  unfold Ms.has
  have h4 : (k : Int) < s.n := by omega
  simp [h]
theorem taken_any (p g : Nat) (vf : Value) (s : Ms) (k : Int) (R : HProp) (w : World) (h : Has w (framesIn p g vf s R)) :
    Calls Try.prog 42 #[.pointer (some ⟨p, 0, none⟩), .int .i64 k] w (Same (Value.bool (s.has k)) w) := by
  obtain ⟨c0, c1⟩ := h.cells2
  by_cases h0 : 0 ≤ k
  · by_cases h4 : k < s.n
    · obtain ⟨k, rfl⟩ := Int.eq_ofNat_of_zero_le h0
      have hc := h.right.tabGet (j := k * 9) (by omega)
      rw [fc_tk] at hc
      have hy := Lib.hid (has_yes (s := s) (k := k) (by omega))
      have hg := h.right.lt
      go_enter Try.func42, Try.ntmps42
      go_wp2
      go_ret
      exact ⟨by rw [hy.out]; rfl, rfl⟩
    · have hy := Lib.hid (has_no (s := s) (k := k) (by omega))
      go_enter Try.func42, Try.ntmps42
      go_wp2
      go_ret
      exact ⟨by rw [hy.out]; rfl, rfl⟩
  · have hy := Lib.hid (has_no (s := s) (k := k) (by omega))
    go_enter Try.func42, Try.ntmps42
    go_wp2
    go_ret
    exact ⟨by rw [hy.out]; rfl, rfl⟩
/-- Where a word stands; nil: nowhere. -/
def wordAt (s : Ms) (g : Nat) (k i : Int) : Value := if s.hasW k i then .pointer (some ⟨g, k.toNat * 9 + 1 + i.toNat, none⟩) else .pointer none
theorem hasW_iff {s : Ms} {k i : Int} : s.hasW k i = true ↔ s.has k = true ∧ 0 ≤ i ∧ i < 8 := by
  unfold Ms.hasW
  simp
theorem word_any (p g : Nat) (vf : Value) (s : Ms) (k i : Int) (R : HProp) (w : World) (h : Has w (framesIn p g vf s R)) :
    Calls Try.prog 74 #[.pointer (some ⟨p, 0, none⟩), .int .i64 k, .int .i64 i] w (Same (wordAt s g k i) w) := by
  obtain ⟨c0, c1⟩ := h.cells2
  cases hk : s.has k with
  | false =>
    have hy := Lib.hid (show wordAt s g k i = .pointer none by unfold wordAt Ms.hasW; rw [hk]; rfl)
    go_enter Try.func74, Try.ntmps74
    go_wp2_with (go_at_call 42; refine (taken_any p g vf s _ _ _ h).mono ?_; rintro e w' ⟨rfl, rfl⟩)
    go_ret
    exact ⟨by rw [hy.out]; rfl, rfl⟩
  | true =>
    by_cases i0 : i < 0
    · have hy := Lib.hid (show wordAt s g k i = .pointer none by unfold wordAt Ms.hasW; rw [if_neg]; simp; omega)
      go_enter Try.func74, Try.ntmps74
      go_wp2_with (go_at_call 42; refine (taken_any p g vf s _ _ _ h).mono ?_; rintro e w' ⟨rfl, rfl⟩)
      go_ret
      exact ⟨by rw [hy.out]; rfl, rfl⟩
    by_cases i8 : 8 ≤ i
    · have hy := Lib.hid (show wordAt s g k i = .pointer none by unfold wordAt Ms.hasW; rw [if_neg]; simp; omega)
      go_enter Try.func74, Try.ntmps74
      go_wp2_with (go_at_call 42; refine (taken_any p g vf s _ _ _ h).mono ?_; rintro e w' ⟨rfl, rfl⟩)
      go_ret
      exact ⟨by rw [hy.out]; rfl, rfl⟩
    have hk' := Ms.has_iff.1 hk
    obtain ⟨k0, k1, _⟩ := hk'
    obtain ⟨k, rfl⟩ := Int.eq_ofNat_of_zero_le k0
    obtain ⟨i, rfl⟩ := Int.eq_ofNat_of_zero_le (show 0 ≤ i by omega)
    have hy := Lib.hid (show wordAt s g k i = .pointer (some ⟨g, k * 9 + 1 + i, none⟩) by unfold wordAt; rw [if_pos (hasW_iff.2 ⟨hk, by omega, by omega⟩)]; simp)
    have hg := h.right.lt
    go_enter Try.func74, Try.ntmps74
    go_wp2_with (go_at_call 42; refine (taken_any p g vf s _ _ _ h).mono ?_; rintro e w' ⟨rfl, rfl⟩)
    go_ret
    exact ⟨by rw [hy.out]; rfl, rfl⟩
def loadV (s : Ms) (k i : Int) : Int := if s.hasW k i then s.wd k.toNat i.toNat else 0
theorem word_cell {p g : Nat} {vf : Value} {s : Ms} {k i : Int} {R : HProp} {w : World} (h : Has w (framesIn p g vf s R)) (hw : s.hasW k i = true) :
    w.cell? ⟨g, k.toNat * 9 + 1 + i.toNat, none⟩ = some ((Value.int .u64) (s.wd k.toNat i.toNat)) := by
  obtain ⟨hk, i0, i8⟩ := hasW_iff.1 hw
  obtain ⟨k0, k1, _⟩ := Ms.has_iff.1 hk
  rw [h.right.tabGet (by omega), fc_wd _ _ _ (by omega)]
theorem fc_setW (s : Ms) (k i : Nat) (v : Int) (hi : i < 8) (j : Nat) : fput (fc s) (k * 9 + 1 + i) ((Value.int .u64) v) j = fc (s.setW k i v) j := by
  unfold fput fc Ms.setW
  dsimp only
  by_cases h : j = k * 9 + 1 + i
  · subst h
    rw [if_pos rfl, if_neg (by omega), show (k * 9 + 1 + i) / 9 = k by omega, show (k * 9 + 1 + i) % 9 - 1 = i by omega, if_pos ⟨rfl, rfl⟩]
  · rw [if_neg h]
    by_cases h9 : j % 9 = 0
    · rw [if_pos h9, if_pos h9]
    · rw [if_neg h9, if_neg h9, if_neg (by omega)]
theorem framesIn_setW {p g : Nat} {vf : Value} {s : Ms} {k i : Nat} {R : HProp} {w : World} (h : Has w (framesIn p g vf s R)) (hi : i < 8) (v : Int) :
    Has (w.setCell ⟨g, k * 9 + 1 + i, none⟩ ((Value.int .u64) v)) (framesIn p g vf (s.setW k i v) R) :=
  ((h.p2.tabSet _ _).tabExt fun j _ => fc_setW s k i v hi j).p2
theorem load_any (p g : Nat) (vf : Value) (s : Ms) (k i : Int) (R : HProp) (w : World) (h : Has w (framesIn p g vf s R)) :
    Calls Try.prog 30 #[.pointer (some ⟨p, 0, none⟩), .int .i64 k, .int .i64 i] w (Same (.tuple #[(Value.int .u64) (loadV s k i), Value.bool (s.hasW k i)]) w) := by
  cases hw : s.hasW k i with
  | true =>
    have hc := word_cell h hw
    have hy := Lib.hid (show loadV s k i = s.wd k.toNat i.toNat by unfold loadV; rw [if_pos hw])
    have hp : wordAt s g k i = .pointer (some ⟨g, k.toNat * 9 + 1 + i.toNat, none⟩) := by unfold wordAt; rw [if_pos hw]
    clear hw
    generalize k.toNat * 9 + 1 + i.toNat = o at *
    generalize s.wd k.toNat i.toNat = x at *
    have hg := h.right.lt
    go_enter Try.func30, Try.ntmps30
    go_wp2_with (go_at_call 74; refine (word_any p g vf s _ _ _ _ h).mono ?_; rintro e w' ⟨rfl, rfl⟩)
    exact bodyPost_ret (v := .tuple #[(Value.int .u64) x, Value.bool true]) (by simp [results, Try.results30, go_sem]) rfl ⟨by rw [hy.out], rfl⟩
  | false =>
    have hy := Lib.hid (show loadV s k i = 0 by unfold loadV; rw [hw]; rfl)
    have hp : wordAt s g k i = .pointer none := by unfold wordAt; rw [hw]; rfl
    clear hw
    go_enter Try.func30, Try.ntmps30
    go_wp2_with (go_at_call 74; refine (word_any p g vf s _ _ _ _ h).mono ?_; rintro e w' ⟨rfl, rfl⟩)
    exact bodyPost_ret (v := .tuple #[(Value.int .u64) 0, Value.bool false]) (by simp [results, Try.results30, go_sem]) rfl ⟨by rw [hy.out], rfl⟩
def storeS (s : Ms) (k i : Int) (v : Int) : Ms := if s.hasW k i then s.setW k.toNat i.toNat v else s
theorem store_any (p g : Nat) (vf : Value) (s : Ms) (k i v : Int) (R : HProp) (w : World) (h : Has w (framesIn p g vf s R)) :
    Calls Try.prog 31 #[.pointer (some ⟨p, 0, none⟩), .int .i64 k, .int .i64 i, .int .u64 v] w (Res (Value.bool (s.hasW k i)) (framesIn p g vf (storeS s k i v) R) w) := by
  cases hw : s.hasW k i with
  | true =>
    have hc := word_cell h hw
    have h2 := framesIn_setW (k := k.toNat) (i := i.toNat) h (by have := (hasW_iff.1 hw).2; omega) v
    have hy := Lib.hid (show storeS s k i v = s.setW k.toNat i.toNat v by unfold storeS; rw [if_pos hw])
    have hp : wordAt s g k i = .pointer (some ⟨g, k.toNat * 9 + 1 + i.toNat, none⟩) := by unfold wordAt; rw [if_pos hw]
    clear hw
    generalize k.toNat * 9 + 1 + i.toNat = o at *
    have hf := h.right.free o
    have hg := h.right.lt
    go_enter Try.func31, Try.ntmps31
    go_wp2_with (go_at_call 74; refine (word_any p g vf s _ _ _ _ h).mono ?_; rintro e w' ⟨rfl, rfl⟩)
    go_ret
    exact ⟨rfl, by rw [hy.out]; exact h2, by (repeat (first | with_reducible assumption | with_reducible exact Ext.refl _ | with_reducible refine Ext.set ?_ _ _ | with_reducible refine Ext.alloc ?_ _ | with_reducible refine Ext.drew ?_ | with_reducible refine Ext.drewN ?_ _ | assumption | exact Ext.refl _ | refine Ext.alloc ?_ _ | refine Ext.set ?_ _ _ | refine Ext.drew ?_ | refine Ext.drewN ?_ _ | refine Ext.below ?_ (by assumption) | refine Ext.trans ?_ (by assumption)))⟩
  | false =>
    have hy := Lib.hid (show storeS s k i v = s by unfold storeS; rw [hw]; rfl)
    have hp : wordAt s g k i = .pointer none := by unfold wordAt; rw [hw]; rfl
    clear hw
    go_enter Try.func31, Try.ntmps31
    go_wp2_with (go_at_call 74; refine (word_any p g vf s _ _ _ _ h).mono ?_; rintro e w' ⟨rfl, rfl⟩)
    go_ret
    exact ⟨rfl, by rw [hy.out]; exact h, Ext.refl _⟩
theorem free_any (p g : Nat) (vf : Value) (s : Ms) (R : HProp) (w : World) (h : Has w (framesIn p g vf s R)) :
    Calls Try.prog 25 #[.pointer (some ⟨p, 0, none⟩)] w (Same ((Value.int .i64) (s.frees.length : Nat)) w) := by
  obtain ⟨A, c, rfl⟩ := h.right.right.rowForm
  obtain ⟨c0, c1⟩ := h.cells2
  go_enter Try.func25, Try.ntmps25
  go_wp2
  go_ret
  exact ⟨rfl, rfl⟩
end Go.Proofs.Ytegkimecdonfgaa
namespace Go.Proofs.Ytegkimecdonfgaa
open Go.RowKit
set_option maxRecDepth 100000
theorem ints_get {l : List Nat} {j k : Nat} (h : l[j]? = some k) : (ints l)[j]? = some ((Value.int .i64) (k : Int)) := by simp [ints, h]
theorem fc_take (s : Ms) (k : Nat) (j : Nat) :
    fput (fput (fput (fput (fput (fput (fput (fput (fput (fc s) (k * 9) (Value.bool true)) (k * 9 + 1) ((Value.int .u64) 0)) (k * 9 + 2) ((Value.int .u64) 0)) (k * 9 + 3) ((Value.int .u64) 0)) (k * 9 + 4) ((Value.int .u64) 0)) (k * 9 + 5) ((Value.int .u64) 0)) (k * 9 + 6) ((Value.int .u64) 0)) (k * 9 + 7) ((Value.int .u64) 0)) (k * 9 + 8) ((Value.int .u64) 0) j = fc (s.take k) j := by
  unfold fput fc Ms.take
  dsimp only
  unfold fput
  by_cases h : j / 9 = k
  · by_cases h0 : j % 9 = 0
    · rw [if_neg (by omega), if_neg (by omega), if_neg (by omega), if_neg (by omega), if_neg (by omega), if_neg (by omega), if_neg (by omega), if_neg (by omega), if_pos (by omega), if_pos h0, if_pos h]
    · rw [if_neg h0, if_neg h0, if_pos h]
      by_cases h8 : j = k * 9 + 8
      · rw [if_pos h8]
      by_cases h7 : j = k * 9 + 7
      · rw [if_neg h8, if_pos h7]
      by_cases h6 : j = k * 9 + 6
      · rw [if_neg h8, if_neg h7, if_pos h6]
      by_cases h5 : j = k * 9 + 5
      · rw [if_neg h8, if_neg h7, if_neg h6, if_pos h5]
      by_cases h4 : j = k * 9 + 4
      · rw [if_neg h8, if_neg h7, if_neg h6, if_neg h5, if_pos h4]
      by_cases h3 : j = k * 9 + 3
      · rw [if_neg h8, if_neg h7, if_neg h6, if_neg h5, if_neg h4, if_pos h3]
      by_cases h2 : j = k * 9 + 2
      · rw [if_neg h8, if_neg h7, if_neg h6, if_neg h5, if_neg h4, if_neg h3, if_pos h2]
      by_cases h1 : j = k * 9 + 1
      · rw [if_neg h8, if_neg h7, if_neg h6, if_neg h5, if_neg h4, if_neg h3, if_neg h2, if_pos h1]
      omega
  · rw [if_neg (by omega), if_neg (by omega), if_neg (by omega), if_neg (by omega), if_neg (by omega), if_neg (by omega), if_neg (by omega), if_neg (by omega), if_neg (by omega), if_neg h, if_neg h]
theorem take_any (p g : Nat) (vf : Value) (s : Ms) (k : Nat) (R : HProp) (w : World) (h : Has w (framesIn p g vf s R)) (hk : s.top = some k) (hn : k < s.n) :
    Calls Try.prog 21 #[.pointer (some ⟨p, 0, none⟩)] w fun e w' => ∃ vf', Res ((Value.int .i64) k) (framesIn p g vf' (s.take k) R) w e w' := by
  have hfr := Ms.frees_take s k hk
  obtain ⟨m, hm⟩ : ∃ m, s.frees.length = m + 1 := ⟨(s.take k).frees.length, by rw [← hfr]; simp⟩
  have hm' : (s.take k).frees.length = m := by rw [← hfr] at hm; simpa using hm
  have hlast : s.frees[m]? = some k := by rw [← hfr, ← hm']; simp
  have hints : (ints s.frees).take m = ints (s.take k).frees := by rw [← hfr, ← hm']; simp [ints]
  obtain ⟨c0, c1⟩ := h.cells2
  have e0 := h.lt
  have f1 := h.free 1
  have h1 : Has w (row 3 1 vf (m + 1) (ints s.frees) * (blk p #[.slice (some ⟨g, 0, none⟩) s.n s.n, vf] 124 * (blk g (tabA (s.n * 9) (fc s)) 121 * R))) := by
    have := h
    unfold framesIn at this
    rw [hm] at this
    exact this.eq (by (simp only [star_assoc, star_left_comm, star_comm]))
  obtain ⟨gf, cap, rfl, hcap, hcap2, hgf, hx⟩ := h1.rowHead
  have hx' := hx _ (ints_get hlast)
  have h2 := h1.rowPop.p2.set 1 (.slice (some ⟨gf, 0, none⟩) m cap)
  have e1 := h.right.lt
  have hm63 : m + 1 ≤ 9223372036854775807 := by unfold maxLen at hcap2; omega
  have h3 := h2.a2.p2
  have hg1 := h3.tabGet (j := k * 9) (by omega)
  have t1 := h3.tabGet (j := k * 9 + 1) (by omega)
  have z1 := h3.free (k * 9 + 1)
  have t2 := h3.tabGet (j := k * 9 + 2) (by omega)
  have z2 := h3.free (k * 9 + 2)
  have t3 := h3.tabGet (j := k * 9 + 3) (by omega)
  have z3 := h3.free (k * 9 + 3)
  have t4 := h3.tabGet (j := k * 9 + 4) (by omega)
  have z4 := h3.free (k * 9 + 4)
  have t5 := h3.tabGet (j := k * 9 + 5) (by omega)
  have z5 := h3.free (k * 9 + 5)
  have t6 := h3.tabGet (j := k * 9 + 6) (by omega)
  have z6 := h3.free (k * 9 + 6)
  have t7 := h3.tabGet (j := k * 9 + 7) (by omega)
  have z7 := h3.free (k * 9 + 7)
  have t8 := h3.tabGet (j := k * 9 + 8) (by omega)
  have z8 := h3.free (k * 9 + 8)
  have z0 := h3.free (k * 9)
  have h4 := ((((((((h3.tabSet (k * 9) (Value.bool true)).tabSet (k * 9 + 1) ((Value.int .u64) 0)).tabSet (k * 9 + 2) ((Value.int .u64) 0)).tabSet (k * 9 + 3) ((Value.int .u64) 0)).tabSet (k * 9 + 4) ((Value.int .u64) 0)).tabSet (k * 9 + 5) ((Value.int .u64) 0)).tabSet (k * 9 + 6) ((Value.int .u64) 0)).tabSet (k * 9 + 7) ((Value.int .u64) 0)).tabSet (k * 9 + 8) ((Value.int .u64) 0)
  go_enter Try.func21, Try.ntmps21
  go_wp2
  go_ret
  refine ⟨.slice (some ⟨gf, 0, none⟩) m cap, rfl, ?_, (((((((((((Ext.refl w).set _ _).set _ _).set _ _).set _ _).set _ _).set _ _).set _ _).set _ _).set _ _).set _ _)⟩
  have h5 := (h4.tabExt (f' := fc (s.take k)) fun j _ => fc_take s k j).p2.a1.in2
  unfold framesIn
  rw [hm', ← hints]
  exact h5
theorem take_none (p g : Nat) (vf : Value) (s : Ms) (R : HProp) (w : World) (h : Has w (framesIn p g vf s R)) (hk : s.top = none) :
    Calls Try.prog 21 #[.pointer (some ⟨p, 0, none⟩)] w (Same ((Value.int .i64) (-1)) w) := by
  have he : s.frees = [] := by rw [← Ms.frees_top] at hk; simpa using hk
  obtain ⟨c0, c1⟩ := h.cells2
  obtain ⟨A, c, rfl⟩ := h.right.right.rowForm
  have hn : s.frees.length = 0 := by rw [he]; rfl
  rw [hn] at c1
  go_enter Try.func21, Try.ntmps21
  go_wp2
  go_ret
  exact ⟨rfl, rfl⟩
theorem elemI : Elem Try.prog 3 ((Value.int .i64) 0) 1 8 := ⟨by kernel_rfl, rfl, by omega⟩
theorem fc_give (s : Ms) (k : Nat) (j : Nat) : fput (fc s) (k * 9) (Value.bool false) j = fc (s.give k) j := by
  unfold fput fc Ms.give
  dsimp only
  unfold fput
  by_cases h : j = k * 9
  · rw [if_pos h, if_pos (by omega), if_pos (by omega)]
  · rw [if_neg h]
    by_cases h0 : j % 9 = 0
    · rw [if_pos h0, if_pos h0, if_neg (by omega)]
    · rw [if_neg h0, if_neg h0]
theorem give_no (p g : Nat) (vf : Value) (s : Ms) (k : Int) (R : HProp) (w : World) (h : Has w (framesIn p g vf s R)) (hk : s.has k = false) :
    Calls Try.prog 17 #[.pointer (some ⟨p, 0, none⟩), .int .i64 k] w (Same (Value.bool false) w) := by
  go_enter Try.func17, Try.ntmps17
  go_wp2_with (go_at_call 42; refine (taken_any p g vf s _ _ _ h).mono ?_; rintro e w' ⟨rfl, rfl⟩)
  go_ret
  exact ⟨rfl, rfl⟩
theorem give_yes (p g : Nat) (vf : Value) (s : Ms) (k : Nat) (R : HProp) (w : World) (h : Has w (framesIn p g vf s R)) (hk : s.has k = true) (hlen : s.frees.length < 1000000) :
    Calls Try.prog 17 #[.pointer (some ⟨p, 0, none⟩), .int .i64 k] w fun e w' => ∃ vf', Res (Value.bool true) (framesIn p g vf' (s.give k) R) w e w' := by
  obtain ⟨k0, k1, _⟩ := Ms.has_iff.1 hk
  obtain ⟨c0, c1⟩ := h.cells2
  obtain ⟨A, c, rfl⟩ := h.right.right.rowForm
  have e0 := h.lt
  have e1 := h.right.lt
  have hc := h.right.tabGet (j := k * 9) (by omega)
  have hf := h.right.free (k * 9)
  have f1 := h.free 1
  have hne := h.ne
  have h2 := ((h.p2.tabSet (k * 9) (Value.bool false)).tabExt (f' := fc (s.give k)) fun j _ => fc_give s k j)
  have h3 : Has (w.setCell ⟨g, k * 9, none⟩ (Value.bool false)) (row 3 1 (.slice A s.frees.length c) s.frees.length (ints s.frees) * (blk p #[.slice (some ⟨g, 0, none⟩) s.n s.n, .slice A s.frees.length c] 124 * (blk g (tabA (s.n * 9) (fc (s.give k))) 121 * R))) := h2.eq (by (simp only [star_assoc, star_left_comm, star_comm]))
  have d0 := h3.right.cells2.1
  have d1 := h3.right.cells2.2
  have e2 := h3.right.lt
  have hrow := h3.alloc (.cells #[(Value.int .i64) k] 3)
  have hlen' : (s.give k).frees.length = s.frees.length + 1 := by rw [Ms.frees_give]; simp
  have hints : ints (s.give k).frees = ints s.frees ++ [(Value.int .i64) (k : Int)] := by rw [Ms.frees_give]; simp [ints]
  have hnews := news_one (w.setCell ⟨g, k * 9, none⟩ (Value.bool false)) ((Value.int .i64) k) 3
  rw [show (w.setCell ⟨g, k * 9, none⟩ (Value.bool false)).heap.size = w.heap.size by simp [World.setCell]] at hnews
  have HT := fun k' => taken_any p g _ s k' _ _ h
  generalize s.frees.length = m at *
  have hL := Lib.hid hlen'
  clear h h2 hlen'
  go_enter Try.func17, Try.ntmps17
  go_wp2_with (first | (go_at_call 42; refine (HT _).mono ?_; rintro e w' ⟨rfl, rfl⟩) | (at_builtin; refine wpList_append_has rfl _ _ 36 rfl Try.underlying36 elemI _ _ _ rfl hrow ⟨w.heap.size, 0, none⟩ 1 1 [(Value.int .i64) k] rfl rfl hnews ?c1 ?c2 ?c3 ?_))
  case c1 => intro u hu; simp at hu; subst hu; rfl
  case c2 => unfold maxLen; omega
  case c3 => omega
  intro v' w2 h' x'
  obtain ⟨A', c', rfl⟩ := h'.rowForm
  have g0 := h'.right.lt
  have g1 := h'.right.free 1
  have g2 := h'.right.cells2.1
  have g3 := h'.right.cells2.2
  have h5 := (h'.p2.set 1 (.slice A' (m + 1) c')).in2
  clear hrow d0 d1 e2 h3
  go_wp2
  go_ret
  refine ⟨.slice A' (m + 1) c', rfl, ?_, by (repeat (first | with_reducible assumption | with_reducible exact Ext.refl _ | with_reducible refine Ext.set ?_ _ _ | with_reducible refine Ext.alloc ?_ _ | with_reducible refine Ext.drew ?_ | with_reducible refine Ext.drewN ?_ _ | assumption | exact Ext.refl _ | refine Ext.alloc ?_ _ | refine Ext.set ?_ _ _ | refine Ext.drew ?_ | refine Ext.drewN ?_ _ | refine Ext.below ?_ (by assumption) | refine Ext.trans ?_ (by assumption)))⟩
  unfold framesIn
  rw [hL.out, hints]
  exact h5
end Go.Proofs.Ytegkimecdonfgaa
namespace Go.Proofs.Ytegkimecdonfgaa
open Go.RowKit
set_option maxRecDepth 100000
def tableZero : Value := .agg #[Value.bool false, (Value.int .u64) 0, (Value.int .u64) 0, (Value.int .u64) 0, (Value.int .u64) 0, (Value.int .u64) 0, (Value.int .u64) 0, (Value.int .u64) 0, (Value.int .u64) 0]
theorem tableInfo : (Try.prog.info? 121).map (fun i => (i.zero, i.size, i.bytes)) = some (some tableZero, 9, 72) := by kernel_rfl
theorem mod9 (j : Nat) : j % 9 = 0 ∨ j % 9 = 1 ∨ j % 9 = 2 ∨ j % 9 = 3 ∨ j % 9 = 4 ∨ j % 9 = 5 ∨ j % 9 = 6 ∨ j % 9 = 7 ∨ j % 9 = 8 := by omega
theorem fc_new (n j : Nat) : tableZero.cells[j % 9]! = fc (Ms.new n) j := by
  unfold fc Ms.new
  dsimp only
  rcases mod9 j with h | h | h | h | h | h | h | h | h <;> rw [h] <;> rfl
theorem frees_part (n k : Nat) (h : k < n) : (List.range' (n - (k + 1)) (k + 1)).reverse = (List.range' (n - k) k).reverse ++ [n - 1 - k] := by
  rw [Ms.range'_rev, show n - (k + 1) + 1 = n - k by omega, show n - (k + 1) = n - 1 - k by omega]
theorem make_tables (n : Nat) (hn : n ≤ 128) (w : World) : (Instr.makeSlice 122 (.int .i64 (n : Int)) (.int .i64 (n : Int))).run Try.prog w = .ok (.slice (some ⟨w.heap.size, 0, none⟩) n n) (w.alloc (.cells (tabA (n * 9) (fc (Ms.new n))) 121)) := by
  rw [run_make_tab (P := Try.prog) 122 121 tableZero 9 72 Try.underlying122 tableInfo rfl n (by omega) (by omega) w, tabA_ext (fun j _ => fc_new n j)]
theorem new_frames (n : Nat) (hn : n ≤ 128) (R : HProp) (w : World) (h : Has w R) :
    Calls Try.prog 56 #[.int .i64 n] w fun e w' => ∃ p g vf, Res (.tuple #[.pointer (some ⟨p, 0, none⟩), .agg #[(Value.int .i64) 0, (Value.int .i64) 0]]) (framesIn p g vf (Ms.new n) R) w e w' := by
  have hmk := make_tables n hn
  have h1 := h.new #[(Value.int .i64) 0, (Value.int .i64) 0] 83
  have h2 := h1.new (tabA (n * 9) (fc (Ms.new n))) 121
  have h3 := h2.new #[.slice (some ⟨w.heap.size + 1, 0, none⟩) n n, .slice none 0 0] 124
  have x3 := (((Ext.refl w).alloc (.cells #[(Value.int .i64) 0, (Value.int .i64) 0] 83)).alloc (.cells (tabA (n * 9) (fc (Ms.new n))) 121)).alloc (.cells #[.slice (some ⟨w.heap.size + 1, 0, none⟩) n n, .slice none 0 0] 124)
  simp only [World.size_alloc] at h2 h3
  have h4 : Has (((w.alloc (.cells #[(Value.int .i64) 0, (Value.int .i64) 0] 83)).alloc (.cells (tabA (n * 9) (fc (Ms.new n))) 121)).alloc (.cells #[.slice (some ⟨w.heap.size + 1, 0, none⟩) n n, .slice none 0 0] 124))
      (row 3 1 (.slice none 0 0) 0 (ints (List.range' (n - 0) 0).reverse) * (blk (w.heap.size + 1 + 1) #[.slice (some ⟨w.heap.size + 1, 0, none⟩) n n, .slice none 0 0] 124 * (blk (w.heap.size + 1) (tabA (n * 9) (fc (Ms.new n))) 121 * (blk w.heap.size #[(Value.int .i64) 0, (Value.int .i64) 0] 83 * R)))) :=
    Has.rowNil h3
  clear h1 h2 h3
  go_enter Try.func56, Try.ntmps56
  go_wp2
  go_loopw [18] (fun t wz => ∃ (j : Nat) (A : Option Addr) (c : Nat), j ≤ n ∧ t = (Value.int .i64) j ∧
      Has wz (row 3 1 (.slice A j c) j (ints (List.range' (n - j) j).reverse) * (blk (w.heap.size + 1 + 1) #[.slice (some ⟨w.heap.size + 1, 0, none⟩) n n, .slice A j c] 124 * (blk (w.heap.size + 1) (tabA (n * 9) (fc (Ms.new n))) 121 * (blk w.heap.size #[(Value.int .i64) 0, (Value.int .i64) 0] 83 * R)))) ∧ Ext w wz)
    (fun t _ => n - (intOf t).toNat)
  case atStart => exact ⟨0, none, 0, by omega, rfl, h4, x3⟩
  case round =>
    obtain ⟨j, A, c, hj, rfl, hz, hx⟩ := hrel
    clear h4 x3
    obtain ⟨c0, c1⟩ := hz.right.cells2
    have e0 := hz.right.lt
    have e1 := hz.right.right.right.lt
    by_cases hjn : j < n
    · have hp := Lib.hid (frees_part n j hjn)
      have hrow := hz.alloc (.cells #[(Value.int .i64) (((n - 1 - j : Nat)) : Int)] 3)
      have hv : (((n - 1 - j : Nat)) : Int) = (n : Int) - 1 - j := by omega
      rw [hv] at hrow
      go_wp2_with (at_builtin; refine wpList_append_has rfl _ _ 36 rfl Try.underlying36 elemI _ _ _ rfl hrow ⟨wr.heap.size, 0, none⟩ 1 1 [(Value.int .i64) ((n : Int) - 1 - j)] rfl rfl (news_one _ _ _) ?c1 ?c2 ?c3 ?_)
      case c1 => intro u hu; simp at hu; subst hu; rfl
      case c2 => unfold maxLen; omega
      case c3 => omega
      intro v' w2 h' x'
      obtain ⟨A', c', rfl⟩ := h'.rowForm
      have g0 := h'.right.lt
      have g1 := h'.right.free 1
      have g2 := h'.right.cells2.1
      have g3 := h'.right.cells2.2
      have h5 := (h'.p2.set 1 (.slice A' (j + 1) c')).p2
      go_wp2
      go_roundw
      case rel =>
        refine ⟨j + 1, A', c', by omega, by go_num, ?_, by (repeat (first | with_reducible assumption | with_reducible exact Ext.refl _ | with_reducible refine Ext.set ?_ _ _ | with_reducible refine Ext.alloc ?_ _ | with_reducible refine Ext.drew ?_ | with_reducible refine Ext.drewN ?_ _ | assumption | exact Ext.refl _ | refine Ext.alloc ?_ _ | refine Ext.set ?_ _ _ | refine Ext.drew ?_ | refine Ext.drewN ?_ _ | refine Ext.below ?_ (by assumption) | refine Ext.trans ?_ (by assumption)))⟩
        rw [hp.out]
        simpa [ints, hv] using h5
      case measure => simp [intOf]; omega
    · obtain rfl : j = n := by omega
      have h6 : Has wr (blk w.heap.size #[(Value.int .i64) 0, (Value.int .i64) 0] 83 * (blk (w.heap.size + 1 + 1) #[.slice (some ⟨w.heap.size + 1, 0, none⟩) j j, .slice A j c] 124 * (blk (w.heap.size + 1) (tabA (j * 9) (fc (Ms.new j))) 121 * (row 3 1 (.slice A j c) j (ints (List.range' (j - j) j).reverse) * R)))) := hz.eq (by (simp only [star_assoc, star_left_comm, star_comm]))
      have f0 := h6.free 0
      have f1 := h6.free 1
      obtain ⟨d0, d1⟩ := h6.cells2
      have h7 := (h6.set 0 ((Value.int .i64) 0)).set 1 ((Value.int .i64) 0)
      obtain ⟨k0, k1⟩ := h7.cells2
      have h8 := h7.right
      have hfr : (Ms.new j).frees = (List.range' (j - j) j).reverse := by rw [Ms.frees_new, Nat.sub_self]
      have HF := Lib.hid hfr
      clear hfr
      go_wp2
      refine bodyPost_ret (v := .tuple #[.pointer (some ⟨w.heap.size + 1 + 1, 0, none⟩), .agg #[(Value.int .i64) 0, (Value.int .i64) 0]]) (by simp [results, Try.results56, go_sem, d0, d1]) rfl ⟨w.heap.size + 1 + 1, w.heap.size + 1, .slice A j c, rfl, ?_, by (repeat (first | with_reducible assumption | with_reducible exact Ext.refl _ | with_reducible refine Ext.set ?_ _ _ | with_reducible refine Ext.alloc ?_ _ | with_reducible refine Ext.drew ?_ | with_reducible refine Ext.drewN ?_ _ | assumption | exact Ext.refl _ | refine Ext.alloc ?_ _ | refine Ext.set ?_ _ _ | refine Ext.drew ?_ | refine Ext.drewN ?_ _ | refine Ext.below ?_ (by assumption) | refine Ext.trans ?_ (by assumption)))⟩
      unfold framesIn
      rw [HF.out]
      have e : (List.range' (j - j) j).reverse.length = j := by simp
      rw [e]
      exact h8
end Go.Proofs.Ytegkimecdonfgaa
namespace Go.Proofs.Ytegkimecdonfgaa
open Go.RowKit
set_option maxRecDepth 100000
def wc (s : Ms) : Nat → Value := fun j => (Value.int .u64) (s.wd (j / 8) (j % 8))
def tc (s : Ms) : Nat → Value := fun j => Value.bool (s.tk j)
/-- A Mem at block q: its words at gw, who is in use at gi, those that were given back in vk. -/
def memIn (q gw gi : Nat) (vk : Value) (s : Ms) (R : HProp) : HProp :=
  blk q #[.slice (some ⟨gw, 0, none⟩) s.n s.n, .slice (some ⟨gi, 0, none⟩) s.n s.n, vk, (Value.int .i64) (s.next : Nat)] 104 *
    (blk gw (tabA (s.n * 8) (wc s)) 100 * (blk gi (tabA s.n (tc s)) 4 * (row 3 1 vk s.back.length (ints s.back) * R)))
theorem memTaken_any (q gw gi : Nat) (vk : Value) (s : Ms) (k : Int) (R : HProp) (w : World) (h : Has w (memIn q gw gi vk s R)) :
    Calls Try.prog 58 #[.pointer (some ⟨q, 0, none⟩), .int .i64 k] w (Same (Value.bool (s.has k)) w) := by
  obtain ⟨c0, c1, c2, c3⟩ := h.cells4
  by_cases h0 : 0 ≤ k
  · by_cases h4 : k < s.n
    · obtain ⟨k, rfl⟩ := Int.eq_ofNat_of_zero_le h0
      have hc : w.cell? ⟨gi, k, none⟩ = some (Value.bool (s.tk k)) := h.right.right.tabGet (j := k) (by omega)
      have hy := Lib.hid (has_yes (s := s) (k := k) (by omega))
      have hg := h.right.right.lt
      go_enter Try.func58, Try.ntmps58
      go_wp2
      go_ret
      exact ⟨by rw [hy.out]; rfl, rfl⟩
    · have hy := Lib.hid (has_no (s := s) (k := k) (by omega))
      go_enter Try.func58, Try.ntmps58
      go_wp2
      go_ret
      exact ⟨by rw [hy.out]; rfl, rfl⟩
  · have hy := Lib.hid (has_no (s := s) (k := k) (by omega))
    go_enter Try.func58, Try.ntmps58
    go_wp2
    go_ret
    exact ⟨by rw [hy.out]; rfl, rfl⟩
end Go.Proofs.Ytegkimecdonfgaa
namespace Go.Proofs.Ytegkimecdonfgaa
open Go.RowKit
set_option maxRecDepth 100000
theorem tc_take (s : Ms) (k j : Nat) : fput (tc s) k (Value.bool true) j = tc (s.take k) j := by
  unfold fput tc Ms.take
  dsimp only
  unfold fput
  by_cases h : j = k
  · rw [if_pos h, if_pos h]
  · rw [if_neg h, if_neg h]
theorem wc_take (s : Ms) (k : Nat) (j : Nat) :
    fput (fput (fput (fput (fput (fput (fput (fput (wc s) (k * 8) ((Value.int .u64) 0)) (k * 8 + 1) ((Value.int .u64) 0)) (k * 8 + 2) ((Value.int .u64) 0)) (k * 8 + 3) ((Value.int .u64) 0)) (k * 8 + 4) ((Value.int .u64) 0)) (k * 8 + 5) ((Value.int .u64) 0)) (k * 8 + 6) ((Value.int .u64) 0)) (k * 8 + 7) ((Value.int .u64) 0) j = wc (s.take k) j := by
  unfold fput wc Ms.take
  dsimp only
  by_cases h : j / 8 = k
  · rw [if_pos h]
    by_cases h7 : j = k * 8 + 7
    · rw [if_pos h7]
    by_cases h6 : j = k * 8 + 6
    · rw [if_neg h7, if_pos h6]
    by_cases h5 : j = k * 8 + 5
    · rw [if_neg h7, if_neg h6, if_pos h5]
    by_cases h4 : j = k * 8 + 4
    · rw [if_neg h7, if_neg h6, if_neg h5, if_pos h4]
    by_cases h3 : j = k * 8 + 3
    · rw [if_neg h7, if_neg h6, if_neg h5, if_neg h4, if_pos h3]
    by_cases h2 : j = k * 8 + 2
    · rw [if_neg h7, if_neg h6, if_neg h5, if_neg h4, if_neg h3, if_pos h2]
    by_cases h1 : j = k * 8 + 1
    · rw [if_neg h7, if_neg h6, if_neg h5, if_neg h4, if_neg h3, if_neg h2, if_pos h1]
    by_cases h0 : j = k * 8
    · rw [if_neg h7, if_neg h6, if_neg h5, if_neg h4, if_neg h3, if_neg h2, if_neg h1, if_pos h0]
    omega
  · rw [if_neg (by omega), if_neg (by omega), if_neg (by omega), if_neg (by omega), if_neg (by omega), if_neg (by omega), if_neg (by omega), if_neg (by omega), if_neg h]
theorem memTake_none (q gw gi : Nat) (vk : Value) (s : Ms) (R : HProp) (w : World) (h : Has w (memIn q gw gi vk s R)) (hk : s.top = none) :
    Calls Try.prog 22 #[.pointer (some ⟨q, 0, none⟩)] w (Pure ((Value.int .i64) (-1)) w) := by
  have hb : s.back = [] ∧ s.n ≤ s.next := by
    unfold Ms.top at hk
    cases hl : s.back.getLast? with
    | some x => rw [hl] at hk; cases hk
    | none =>
      rw [hl] at hk
      simp only at hk
      split at hk
      · cases hk
      · exact ⟨by simpa using hl, by omega⟩
  obtain ⟨hb, hle⟩ := hb
  obtain ⟨A, c, rfl⟩ := h.right.right.right.rowForm
  have hn : s.back.length = 0 := by rw [hb]; rfl
  obtain ⟨c0, c1, c2, c3⟩ := h.cells4
  rw [hn] at c2
  have v0 := via_cell c0
  have v1 := via_cell c1
  have v3 := via_cell c3
  go_enter Try.func22, Try.ntmps22
  go_wp2
  refine wp_region_via (by kernel_rfl) (by kernel_rfl) ?_
  repeat (first | go_big_quiet_step (fail) | quiet_step (fail))
  refine wpQuiet_nil ?_
  intro _ hw'
  obtain ⟨uq, hw''⟩ := hw'
  subst hw''
  go_wp2
  go_ret
  exact ⟨rfl, via_below _ _⟩
theorem memTake_back (q gw gi : Nat) (vk : Value) (s : Ms) (k : Nat) (R : HProp) (w : World) (h : Has w (memIn q gw gi vk s R)) (hk : s.back.getLast? = some k) (hn : k < s.n) :
    Calls Try.prog 22 #[.pointer (some ⟨q, 0, none⟩)] w fun e w' => ∃ vk', Res ((Value.int .i64) k) (memIn q gw gi vk' (s.take k) R) w e w' := by
  have hne : s.back ≠ [] := by rintro e; rw [e] at hk; cases hk
  have hfr := dl hk
  have hnx : (s.take k).next = s.next := by simp [Ms.take, hne]
  have hbk : (s.take k).back = s.back.dropLast := rfl
  obtain ⟨m, hm⟩ : ∃ m, s.back.length = m + 1 := ⟨s.back.dropLast.length, by rw [← hfr]; simp⟩
  have hm' : s.back.dropLast.length = m := by rw [← hfr] at hm; simpa using hm
  have hlast : s.back[m]? = some k := by rw [← hfr, ← hm']; simp
  have hints : (ints s.back).take m = ints s.back.dropLast := by
    have e1 : ints s.back = ints s.back.dropLast ++ [(Value.int .i64) (k : Int)] := by rw [← hfr]; simp [ints]
    rw [e1, ← hm']
    simp [ints]
  obtain ⟨c0, c1, c2, c3⟩ := h.cells4
  have e0 := h.lt
  have f2 := h.free 2
  have h1 : Has w (row 3 1 vk (m + 1) (ints s.back) * (blk q #[.slice (some ⟨gw, 0, none⟩) s.n s.n, .slice (some ⟨gi, 0, none⟩) s.n s.n, vk, (Value.int .i64) (s.next : Nat)] 104 *
      (blk gw (tabA (s.n * 8) (wc s)) 100 * (blk gi (tabA s.n (tc s)) 4 * R)))) := by
    have := h
    unfold memIn at this
    rw [hm] at this
    exact this.eq (by (simp only [star_assoc, star_left_comm, star_comm]))
  have n1 := h.ne
  have n2 : q ≠ gi := h.in2.ne
  have n3 : gw ≠ gi := h.right.ne
  obtain ⟨gb, cap, rfl, hcap, hcap2, hgb, hx⟩ := h1.rowHead
  have hx' := hx _ (ints_get hlast)
  have hm63 : m + 1 ≤ 9223372036854775807 := by unfold maxLen at hcap2; omega
  have h2 := h1.rowPop.p2.set 2 (.slice (some ⟨gb, 0, none⟩) m cap)
  have h3 := h2.a2.p2.a2.p2
  have hg := h3.lt
  have i0 := h3.tabGet (j := k) hn
  have i1 := h3.free k
  have hW := ((h3.tabSet k (Value.bool true)).tabExt (f' := tc (s.take k)) fun j _ => tc_take s k j).p2.a1
  have e1 := hW.lt
  have t0 := hW.tabGet (j := k * 8) (by omega)
  have z0 := hW.free (k * 8)
  have t1 := hW.tabGet (j := k * 8 + 1) (by omega)
  have z1 := hW.free (k * 8 + 1)
  have t2 := hW.tabGet (j := k * 8 + 2) (by omega)
  have z2 := hW.free (k * 8 + 2)
  have t3 := hW.tabGet (j := k * 8 + 3) (by omega)
  have z3 := hW.free (k * 8 + 3)
  have t4 := hW.tabGet (j := k * 8 + 4) (by omega)
  have z4 := hW.free (k * 8 + 4)
  have t5 := hW.tabGet (j := k * 8 + 5) (by omega)
  have z5 := hW.free (k * 8 + 5)
  have t6 := hW.tabGet (j := k * 8 + 6) (by omega)
  have z6 := hW.free (k * 8 + 6)
  have t7 := hW.tabGet (j := k * 8 + 7) (by omega)
  have z7 := hW.free (k * 8 + 7)
  have h4 := (((((((hW.tabSet (k * 8) ((Value.int .u64) 0)).tabSet (k * 8 + 1) ((Value.int .u64) 0)).tabSet (k * 8 + 2) ((Value.int .u64) 0)).tabSet (k * 8 + 3) ((Value.int .u64) 0)).tabSet (k * 8 + 4) ((Value.int .u64) 0)).tabSet (k * 8 + 5) ((Value.int .u64) 0)).tabSet (k * 8 + 6) ((Value.int .u64) 0)).tabSet (k * 8 + 7) ((Value.int .u64) 0)
  have h5 := (h4.tabExt (f' := wc (s.take k)) fun j _ => wc_take s k j).p2.a1.in2.in3
  clear h1 h2 h4
  go_enter Try.func22, Try.ntmps22
  go_wp2
  go_ret
  refine ⟨.slice (some ⟨gb, 0, none⟩) m cap, rfl, ?_, ((((((((((Ext.refl w).set _ _).set _ _).set _ _).set _ _).set _ _).set _ _).set _ _).set _ _).set _ _).set _ _⟩
  unfold memIn
  rw [hnx, hbk, hm', ← hints]
  exact h5
end Go.Proofs.Ytegkimecdonfgaa
namespace Go.Proofs.Ytegkimecdonfgaa
open Go.RowKit
set_option maxRecDepth 100000
theorem memTake_next (q gw gi : Nat) (vk : Value) (s : Ms) (R : HProp) (w : World) (h : Has w (memIn q gw gi vk s R)) (hb : s.back = []) (hn : s.next < s.n) (hn2 : s.n ≤ 1000) :
    Calls Try.prog 22 #[.pointer (some ⟨q, 0, none⟩)] w fun e w' => ∃ vk', Res ((Value.int .i64) (s.next : Nat)) (memIn q gw gi vk' (s.take s.next) R) w e w' := by
  have hnx : (s.take s.next).next = s.next + 1 := by simp [Ms.take, hb]
  have hbk : (s.take s.next).back = [] := by simp [Ms.take, hb]
  obtain ⟨A, c, rfl⟩ := h.right.right.right.rowForm
  unfold memIn at h
  rw [hb] at h
  dsimp only [List.length_nil] at h
  obtain ⟨c0, c1, c2, c3⟩ := h.cells4
  have v0 := via_cell c0
  have v1 := via_cell c1
  have v3 := via_cell c3
  go_enter Try.func22, Try.ntmps22
  go_wp2
  refine wp_region_via (by kernel_rfl) (by kernel_rfl) ?_
  repeat (first | go_big_quiet_step (fail) | quiet_step (fail))
  refine wpQuiet_nil ?_
  intro _ hw'
  obtain ⟨uq, hw''⟩ := hw'
  subst hw''
  have hv := h.via uq
  have xv := (Ext.refl w).below (via_below w uq)
  generalize via w uq = w1 at *
  clear v0 v1 v3 c0 c1 c2 c3 h
  obtain ⟨c0, c1, c2, c3⟩ := hv.cells4
  have e0 := hv.lt
  have f3 := hv.free 3
  have n1 := hv.ne
  have n2 : q ≠ gi := hv.in2.ne
  have n3 : gw ≠ gi := hv.right.ne
  have h2 := hv.set 3 ((Value.int .i64) ((s.next + 1 : Nat) : Int))
  rw [show (((s.next + 1 : Nat)) : Int) = (s.next : Int) + 1 by omega] at h2
  have h3 := h2.in2.p2
  have hg := h3.lt
  have i0 := h3.tabGet (j := s.next) hn
  have i1 := h3.free s.next
  have hW := ((h3.tabSet s.next (Value.bool true)).tabExt (f' := tc (s.take s.next)) fun j _ => tc_take s s.next j).in2.p2
  have e1 := hW.lt
  have t0 := hW.tabGet (j := s.next * 8) (by omega)
  have z0 := hW.free (s.next * 8)
  have t1 := hW.tabGet (j := s.next * 8 + 1) (by omega)
  have z1 := hW.free (s.next * 8 + 1)
  have t2 := hW.tabGet (j := s.next * 8 + 2) (by omega)
  have z2 := hW.free (s.next * 8 + 2)
  have t3 := hW.tabGet (j := s.next * 8 + 3) (by omega)
  have z3 := hW.free (s.next * 8 + 3)
  have t4 := hW.tabGet (j := s.next * 8 + 4) (by omega)
  have z4 := hW.free (s.next * 8 + 4)
  have t5 := hW.tabGet (j := s.next * 8 + 5) (by omega)
  have z5 := hW.free (s.next * 8 + 5)
  have t6 := hW.tabGet (j := s.next * 8 + 6) (by omega)
  have z6 := hW.free (s.next * 8 + 6)
  have t7 := hW.tabGet (j := s.next * 8 + 7) (by omega)
  have z7 := hW.free (s.next * 8 + 7)
  have h4 := (((((((hW.tabSet (s.next * 8) ((Value.int .u64) 0)).tabSet (s.next * 8 + 1) ((Value.int .u64) 0)).tabSet (s.next * 8 + 2) ((Value.int .u64) 0)).tabSet (s.next * 8 + 3) ((Value.int .u64) 0)).tabSet (s.next * 8 + 4) ((Value.int .u64) 0)).tabSet (s.next * 8 + 5) ((Value.int .u64) 0)).tabSet (s.next * 8 + 6) ((Value.int .u64) 0)).tabSet (s.next * 8 + 7) ((Value.int .u64) 0)
  have h5 := (h4.tabExt (f' := wc (s.take s.next)) fun j _ => wc_take s s.next j)
  clear h2 h4 h3
  go_wp2
  go_ret
  refine ⟨.slice A 0 c, rfl, ?_, ((((((((((xv.set _ _).set _ _).set _ _).set _ _).set _ _).set _ _).set _ _).set _ _).set _ _).set _ _)⟩
  unfold memIn
  rw [hnx, hbk]
  have h6 := h5.in2.p2
  exact h6
theorem memTake_any (q gw gi : Nat) (vk : Value) (s : Ms) (k : Nat) (R : HProp) (w : World) (h : Has w (memIn q gw gi vk s R)) (i : s.Inv) (hn2 : s.n ≤ 1000) (hk : s.top = some k) :
    Calls Try.prog 22 #[.pointer (some ⟨q, 0, none⟩)] w fun e w' => ∃ vk', Res ((Value.int .i64) k) (memIn q gw gi vk' (s.take k) R) w e w' := by
  have hlt := Ms.top_lt i hk
  cases hb : s.back.getLast? with
  | some x =>
    have : x = k := by unfold Ms.top at hk; rw [hb] at hk; simpa using hk
    subst this
    exact memTake_back q gw gi vk s x R w h hb hlt.1
  | none =>
    have he : s.back = [] := by simpa using hb
    have : s.next < s.n ∧ s.next = k := by
      unfold Ms.top at hk
      rw [hb] at hk
      simp only at hk
      split at hk
      · exact ⟨by assumption, by simpa using hk⟩
      · cases hk
    obtain ⟨h1, rfl⟩ := this
    exact memTake_next q gw gi vk s R w h he h1 hn2
end Go.Proofs.Ytegkimecdonfgaa
namespace Go.Proofs.Ytegkimecdonfgaa
open Go.RowKit
set_option maxRecDepth 100000
def wordsZero : Value := .agg #[(Value.int .u64) 0, (Value.int .u64) 0, (Value.int .u64) 0, (Value.int .u64) 0, (Value.int .u64) 0, (Value.int .u64) 0, (Value.int .u64) 0, (Value.int .u64) 0]
theorem wordsInfo : (Try.prog.info? 100).map (fun i => (i.zero, i.size, i.bytes)) = some (some wordsZero, 8, 64) := by kernel_rfl
theorem boolInfo : (Try.prog.info? 4).map (fun i => (i.zero, i.size, i.bytes)) = some (some (Value.bool false), 1, 1) := by kernel_rfl
theorem mod8n (j : Nat) : j % 8 = 0 ∨ j % 8 = 1 ∨ j % 8 = 2 ∨ j % 8 = 3 ∨ j % 8 = 4 ∨ j % 8 = 5 ∨ j % 8 = 6 ∨ j % 8 = 7 := by omega
theorem wc_new (n j : Nat) : wordsZero.cells[j % 8]! = wc (Ms.new n) j := by
  unfold wc Ms.new
  dsimp only
  rcases mod8n j with h | h | h | h | h | h | h | h <;> rw [h] <;> rfl
theorem make_words (n : Nat) (hn : n ≤ 128) (w : World) : (Instr.makeSlice 101 (.int .i64 (n : Int)) (.int .i64 (n : Int))).run Try.prog w = .ok (.slice (some ⟨w.heap.size, 0, none⟩) n n) (w.alloc (.cells (tabA (n * 8) (wc (Ms.new n))) 100)) := by
  rw [run_make_tab (P := Try.prog) 101 100 wordsZero 8 64 Try.underlying101 wordsInfo rfl n (by omega) (by omega) w, tabA_ext (fun j _ => wc_new n j)]
theorem make_bools (n : Nat) (hn : n ≤ 128) (w : World) : (Instr.makeSlice 102 (.int .i64 (n : Int)) (.int .i64 (n : Int))).run Try.prog w = .ok (.slice (some ⟨w.heap.size, 0, none⟩) n n) (w.alloc (.cells (tabA n (tc (Ms.new n))) 4)) := by
  rw [run_make_tab (P := Try.prog) 102 4 (Value.bool false) 1 1 Try.underlying102 boolInfo rfl n (by omega) (by omega) w, Nat.mul_one, tabA_ext (f := fun j => (Value.bool false).cells[j % 1]!) (g := tc (Ms.new n)) (fun j _ => by
    show (Value.bool false).cells[j % 1]! = Value.bool false
    rw [Nat.mod_one]
    rfl)]
theorem newMem_any (n : Nat) (hn : n ≤ 128) (R : HProp) (w : World) (h : Has w R) :
    Calls Try.prog 57 #[.int .i64 n] w fun e w' => ∃ q gw gi vk, Res (.pointer (some ⟨q, 0, none⟩)) (memIn q gw gi vk (Ms.new n) R) w e w' := by
  have hW := make_words n hn
  have hB := make_bools n hn
  go_enter Try.func57, Try.ntmps57
  go_wp2
  go_region
  · have h1 := h.new (tabA (n * 8) (wc (Ms.new n))) 100
    have h2 := h1.new (tabA n (tc (Ms.new n))) 4
    have h3 := h2.new #[.slice (some ⟨w.heap.size, 0, none⟩) n n, .slice (some ⟨w.heap.size + 1, 0, none⟩) n n, .slice none 0 0, (Value.int .i64) 0] 104
    have x3 := (((Ext.refl w).alloc (.cells (tabA (n * 8) (wc (Ms.new n))) 100)).alloc (.cells (tabA n (tc (Ms.new n))) 4)).alloc (.cells #[.slice (some ⟨w.heap.size, 0, none⟩) n n, .slice (some ⟨w.heap.size + 1, 0, none⟩) n n, .slice none 0 0, (Value.int .i64) 0] 104)
    simp only [World.size_alloc] at h2 h3
    have h4 := Has.rowNil (e := 3) (size := 1) h3
    have h5 := h4.p2.in2.in3
    have h6 := h5.in2
    go_wp2
    go_ret
    exact ⟨_, w.heap.size, w.heap.size + 1, .slice none 0 0, rfl, h6.drew, x3.drew⟩
  · have h1 := h.new (tabA n (tc (Ms.new n))) 4
    have h2 := h1.new (tabA (n * 8) (wc (Ms.new n))) 100
    have h3 := h2.new #[.slice (some ⟨w.heap.size + 1, 0, none⟩) n n, .slice (some ⟨w.heap.size, 0, none⟩) n n, .slice none 0 0, (Value.int .i64) 0] 104
    have x3 := (((Ext.refl w).alloc (.cells (tabA n (tc (Ms.new n))) 4)).alloc (.cells (tabA (n * 8) (wc (Ms.new n))) 100)).alloc (.cells #[.slice (some ⟨w.heap.size + 1, 0, none⟩) n n, .slice (some ⟨w.heap.size, 0, none⟩) n n, .slice none 0 0, (Value.int .i64) 0] 104)
    simp only [World.size_alloc] at h2 h3
    have h4 := Has.rowNil (e := 3) (size := 1) h3
    have h5 := h4.p2.in2.in3
    go_wp2
    go_ret
    exact ⟨_, w.heap.size + 1, w.heap.size, .slice none 0 0, rfl, h5.drew, x3.drew⟩
end Go.Proofs.Ytegkimecdonfgaa
namespace Go.Proofs.Ytegkimecdonfgaa
open Go.RowKit
set_option maxRecDepth 100000
theorem span_any (s : Int) (w : World) : Calls Try.prog 96 #[.int .i64 s] w (Same ((Value.int .i64) (span s)) w) := by
  unfold span
  by_cases h0 : s = 0
  · subst h0
    go_enter Try.func96, Try.ntmps96
    go_wp2
    go_ret
    exact ⟨rfl, rfl⟩
  by_cases h1 : s = 1
  · subst h1
    go_enter Try.func96, Try.ntmps96
    go_wp2
    go_ret
    exact ⟨rfl, rfl⟩
  by_cases h2 : s = 2
  · subst h2
    go_enter Try.func96, Try.ntmps96
    go_wp2
    go_ret
    exact ⟨rfl, rfl⟩
  rw [if_neg h0, if_neg h1, if_neg h2]
  go_enter Try.func96, Try.ntmps96
  go_wp2
  go_ret
  exact ⟨rfl, rfl⟩
theorem has_any (p : Int) (w : World) : Calls Try.prog 72 #[.int .i64 p] w (Same (Value.bool (hasB p)) w) := by
  unfold hasB
  by_cases h0 : 0 ≤ p
  · go_enter Try.func72, Try.ntmps72
    go_wp2
    go_ret
    exact ⟨by simp [h0], rfl⟩
  · have hd : decide (0 ≤ p) = false := by simpa using h0
    go_enter Try.func72, Try.ntmps72
    go_wp2
    go_ret
    exact ⟨rfl, rfl⟩
theorem over_yes {m : Mp} {p : Int} (hm : i64 m.page) (hp : i64 p) (h : m.page ≤ p) :
    decide (IntKind.u64.wrap (IntKind.u64.wrap p - IntKind.u64.wrap m.page) < IntKind.u64.wrap (span m.size)) = over m p := by
  obtain ⟨hm1, hm2⟩ := hm
  obtain ⟨hp1, hp2⟩ := hp
  have hs : 0 ≤ span m.size ∧ span m.size ≤ 64 := by unfold span; split <;> (try split) <;> (try split) <;> omega
  have e : ∀ x : Int, IntKind.u64.wrap x = x % 18446744073709551616 := fun x => by simp [IntKind.wrap, IntKind.signed, IntKind.bits]
  rw [e, e, e, e]
  unfold over
  have e1 : (p % 18446744073709551616 - m.page % 18446744073709551616) % 18446744073709551616 = p - m.page := by omega
  have e2 : span m.size % 18446744073709551616 = span m.size := by omega
  rw [e1, e2]
  simp [h]
theorem over_page (m : Mp) (p : Int) (w : World) (hm : i64 m.page) (hp : i64 p) :
    Calls Try.prog 105 #[.agg #[(Value.int .i64) m.page, (Value.int .i64) m.size, (Value.int .i64) m.frame, (Value.int .i64) m.rights], .int .i64 p] w (Pure (Value.bool (over m p)) w) := by
  have hb := Has.new (has_old w) #[(Value.int .i64) m.page, (Value.int .i64) m.size, (Value.int .i64) m.frame, (Value.int .i64) m.rights] 24
  obtain ⟨c0, c1, c2, c3⟩ := hb.cells4
  have v0 := via_cell c0
  have v1 := via_cell c1
  have bl := (Below.refl w.heap.size w).alloc (Nat.le_refl _) (.cells #[(Value.int .i64) m.page, (Value.int .i64) m.size, (Value.int .i64) m.frame, (Value.int .i64) m.rights] 24)
  by_cases h0 : m.page ≤ p
  · have hy := Lib.hid (over_yes hm hp h0)
    go_enter Try.func105, Try.ntmps105
    go_wp2
    refine wp_region_via (by kernel_rfl) (by kernel_rfl) ?_
    repeat (first | go_big_quiet_step ((go_at_call 96; exact Same.via (span_any _ _))) | quiet_step ((go_at_call 96; exact Same.via (span_any _ _))))
    refine wpQuiet_nil ?_
    intro _ hw'
    obtain ⟨uq, hw''⟩ := hw'
    subst hw''
    go_wp2
    go_ret
    exact ⟨by rw [← hy.out]; rfl, bl.trans ((via_below _ _).mono (by simp))⟩
  · have hd : decide (m.page ≤ p) = false := by simpa using h0
    have hy := Lib.hid (show over m p = false by unfold over; rw [hd]; rfl)
    go_enter Try.func105, Try.ntmps105
    go_wp2
    refine wp_region_via (by kernel_rfl) (by kernel_rfl) ?_
    repeat (first | go_big_quiet_step (fail) | quiet_step (fail))
    refine wpQuiet_nil ?_
    intro _ hw'
    obtain ⟨uq, hw''⟩ := hw'
    subst hw''
    go_wp2
    go_ret
    exact ⟨by rw [hy.out]; rfl, bl.trans ((via_below _ _).mono (by simp))⟩
theorem meet_any (a b : Mp) (w : World) (ha : i64 a.page) (hb : i64 b.page) :
    Calls Try.prog 80 #[.agg #[(Value.int .i64) a.page, (Value.int .i64) a.size, (Value.int .i64) a.frame, (Value.int .i64) a.rights], .agg #[(Value.int .i64) b.page, (Value.int .i64) b.size, (Value.int .i64) b.frame, (Value.int .i64) b.rights]] w (Pure (Value.bool (meet a b)) w) := by
  have h1 := Has.new (has_old w) #[(Value.int .i64) a.page, (Value.int .i64) a.size, (Value.int .i64) a.frame, (Value.int .i64) a.rights] 24
  have h2 := h1.new #[(Value.int .i64) b.page, (Value.int .i64) b.size, (Value.int .i64) b.frame, (Value.int .i64) b.rights] 24
  have x2 := ((Ext.refl w).alloc (.cells #[(Value.int .i64) a.page, (Value.int .i64) a.size, (Value.int .i64) a.frame, (Value.int .i64) a.rights] 24)).alloc (.cells #[(Value.int .i64) b.page, (Value.int .i64) b.size, (Value.int .i64) b.frame, (Value.int .i64) b.rights] 24)
  simp only [World.size_alloc] at h2
  go_enter Try.func80, Try.ntmps80
  go_wp2_with fail
  refine (over_page a b.page _ ha hb).mono ?_; rintro e w2 ⟨rfl, b2⟩
  have h3 := h2.below b2
  obtain ⟨c0, c1, c2, c3⟩ := h3.cells4
  obtain ⟨d0, d1, d2, d3⟩ := h3.right.cells4
  cases ho : over a b.page with
  | true =>
    have hy := Lib.hid (show meet a b = true by unfold meet; rw [ho]; rfl)
    go_wp2_with fail
    go_ret
    exact ⟨by rw [hy.out]; rfl, below_of1 h3.right.right (x2.below b2)⟩
  | false =>
    go_wp2_with fail
    refine (over_page b a.page _ hb ha).mono ?_; rintro e w3 ⟨rfl, b3⟩
    have h4 := h3.below b3
    have hy := Lib.hid (show meet a b = over b a.page by unfold meet; rw [ho]; rfl)
    go_wp2_with fail
    go_ret
    exact ⟨by rw [hy.out]; rfl, below_of1 h4.right.right ((x2.below b2).below b3)⟩
theorem check_any (m : Mp) (w : World) : Calls Try.prog 59 #[.agg #[(Value.int .i64) m.page, (Value.int .i64) m.size, (Value.int .i64) m.frame, (Value.int .i64) m.rights]] w (Pure ((Value.int .i64) (check m)) w) := by
  have h1 := Has.new (has_old w) #[(Value.int .i64) m.page, (Value.int .i64) m.size, (Value.int .i64) m.frame, (Value.int .i64) m.rights] 24
  have x1 := (Ext.refl w).alloc (.cells #[(Value.int .i64) m.page, (Value.int .i64) m.size, (Value.int .i64) m.frame, (Value.int .i64) m.rights] 24)
  have bl := below_of1 h1.right x1
  by_cases s0 : span m.size = 0
  · skip
    have hy := Lib.hid (show check m = 2 by unfold check; rw [if_pos s0])
    go_enter Try.func59, Try.ntmps59
    go_wp2_with (first | (go_at_call 96; refine (span_any _ _).mono ?_; rintro e w' ⟨rfl, rfl⟩) | (go_at_call 72; refine (has_any _ _).mono ?_; rintro e w' ⟨rfl, rfl⟩))
    go_ret
    exact ⟨by rw [hy.out]; rfl, bl⟩
  have s1 : 1 ≤ span m.size := by unfold span at *; split <;> (try split) <;> (try split) <;> simp_all
  have s0' : (span m.size == 0) = false := by simpa using s0
  by_cases hp : hasB m.page = true
  · have hp' : 0 ≤ m.page ∧ m.page < 4096 := by simpa [hasB] using hp
    obtain ⟨p0, p1⟩ := hp'
    by_cases f0 : m.frame < 0
    · skip
      have hy := Lib.hid (show check m = 1 by unfold check; rw [if_neg s0, if_pos (by omega)])
      go_enter Try.func59, Try.ntmps59
      go_wp2_with (first | (go_at_call 96; refine (span_any _ _).mono ?_; rintro e w' ⟨rfl, rfl⟩) | (go_at_call 72; refine (has_any _ _).mono ?_; rintro e w' ⟨rfl, rfl⟩))
      go_ret
      exact ⟨by rw [hy.out]; rfl, bl⟩
    by_cases f1 : 1048576 ≤ m.frame
    · skip
      have hy := Lib.hid (show check m = 1 by unfold check; rw [if_neg s0, if_pos (by omega)])
      go_enter Try.func59, Try.ntmps59
      go_wp2_with (first | (go_at_call 96; refine (span_any _ _).mono ?_; rintro e w' ⟨rfl, rfl⟩) | (go_at_call 72; refine (has_any _ _).mono ?_; rintro e w' ⟨rfl, rfl⟩))
      go_ret
      exact ⟨by rw [hy.out]; rfl, bl⟩
    by_cases r0 : m.rights < 0
    · skip
      have hy := Lib.hid (show check m = 1 by unfold check; rw [if_neg s0, if_pos (by omega)])
      go_enter Try.func59, Try.ntmps59
      go_wp2_with (first | (go_at_call 96; refine (span_any _ _).mono ?_; rintro e w' ⟨rfl, rfl⟩) | (go_at_call 72; refine (has_any _ _).mono ?_; rintro e w' ⟨rfl, rfl⟩))
      go_ret
      exact ⟨by rw [hy.out]; rfl, bl⟩
    by_cases r1 : 7 < m.rights
    · skip
      have hy := Lib.hid (show check m = 1 by unfold check; rw [if_neg s0, if_pos (by omega)])
      go_enter Try.func59, Try.ntmps59
      go_wp2_with (first | (go_at_call 96; refine (span_any _ _).mono ?_; rintro e w' ⟨rfl, rfl⟩) | (go_at_call 72; refine (has_any _ _).mono ?_; rintro e w' ⟨rfl, rfl⟩))
      go_ret
      exact ⟨by rw [hy.out]; rfl, bl⟩
    have hno : ¬ (m.page < 0 ∨ 4096 ≤ m.page ∨ m.frame < 0 ∨ 1048576 ≤ m.frame ∨ m.rights < 0 ∨ 7 < m.rights) := by omega
    have hn := Lib.hid hno
    clear hno
    cases q0 : (m.page % span m.size != 0) with
    | true =>
      have g := Lib.hid q0
      have hy := Lib.hid (show check m = 3 by unfold check; rw [if_neg s0, if_neg hn.out, if_pos (.inl (by simpa using g.out))])
      go_enter Try.func59, Try.ntmps59
      go_wp2_with (first | (go_at_call 96; refine (span_any _ _).mono ?_; rintro e w' ⟨rfl, rfl⟩) | (go_at_call 72; refine (has_any _ _).mono ?_; rintro e w' ⟨rfl, rfl⟩))
      go_ret
      exact ⟨by rw [hy.out]; rfl, bl⟩
    | false =>
      cases q1 : (m.frame % span m.size != 0) with
      | true =>
        have g := Lib.hid q1
        have hy := Lib.hid (show check m = 3 by unfold check; rw [if_neg s0, if_neg hn.out, if_pos (.inr (by simpa using g.out))])
        go_enter Try.func59, Try.ntmps59
        go_wp2_with (first | (go_at_call 96; refine (span_any _ _).mono ?_; rintro e w' ⟨rfl, rfl⟩) | (go_at_call 72; refine (has_any _ _).mono ?_; rintro e w' ⟨rfl, rfl⟩))
        go_ret
        exact ⟨by rw [hy.out]; rfl, bl⟩
      | false =>
        have g := Lib.hid q0
        have g' := Lib.hid q1
        have hy := Lib.hid (show check m = 0 by unfold check; rw [if_neg s0, if_neg hn.out, if_neg (by have a := g.out; have b := g'.out; simp at a b; omega)])
        go_enter Try.func59, Try.ntmps59
        go_wp2_with (first | (go_at_call 96; refine (span_any _ _).mono ?_; rintro e w' ⟨rfl, rfl⟩) | (go_at_call 72; refine (has_any _ _).mono ?_; rintro e w' ⟨rfl, rfl⟩))
        go_ret
        exact ⟨by rw [hy.out]; rfl, bl⟩
  · have hp0 : hasB m.page = false := by simpa using hp
    have hp' := Lib.hid (show m.page < 0 ∨ 4096 ≤ m.page by unfold hasB at hp0; simp at hp0; omega)
    clear hp
    have hy := Lib.hid (show check m = 1 by unfold check; rw [if_neg s0, if_pos (by have := hp'.out; omega)])
    go_enter Try.func59, Try.ntmps59
    go_wp2_with (first | (go_at_call 96; refine (span_any _ _).mono ?_; rintro e w' ⟨rfl, rfl⟩) | (go_at_call 72; refine (has_any _ _).mono ?_; rintro e w' ⟨rfl, rfl⟩))
    go_ret
    exact ⟨by rw [hy.out]; rfl, bl⟩
theorem pow8_posP : ∀ n, 0 < pow8 n
  | 0 => by simp [pow8]
  | n + 1 => by have := pow8_posP n; unfold pow8; omega
theorem div_pow8 (p : Int) (n : Nat) : p / pow8 n / 8 = p / pow8 (n + 1) := by
  have h := pow8_posP n
  rw [Int.ediv_ediv_of_nonneg (by omega), show pow8 (n + 1) = 8 * pow8 n from rfl, Int.mul_comm]
theorem div_pow8_bd {p : Int} (h0 : 0 ≤ p) (h1 : p < 4096) (n : Nat) : 0 ≤ p / pow8 n ∧ p / pow8 n < 4096 := by
  have h := pow8_posP n
  refine ⟨Int.ediv_nonneg h0 (by omega), ?_⟩
  exact Int.lt_of_le_of_lt (Int.ediv_le_self _ h0) h1
theorem index_any (p l : Int) (w : World) : Calls Try.prog 62 #[.int .i64 p, .int .i64 l] w (Same ((Value.int .i64) (index p l)) w) := by
  by_cases hp : hasB p = true
  · have hp' : 0 ≤ p ∧ p < 4096 := by simpa [hasB] using hp
    obtain ⟨p0, p1⟩ := hp'
    by_cases l0 : 0 ≤ l
    · by_cases l1 : l < 4
      · obtain ⟨l, rfl⟩ := Int.eq_ofNat_of_zero_le l0
        have hy := Lib.hid (show index p l = p / pow8 l % 8 by unfold index; rw [if_pos ⟨p0, p1, l0, l1⟩]; simp)
        go_enter Try.func62, Try.ntmps62
        go_wp2_with (first | (go_at_call 72; refine (has_any _ _).mono ?_; rintro e w' ⟨rfl, rfl⟩))
        go_loop [0, 17] (fun x t => ∃ j : Nat, j ≤ l ∧ t = (Value.int .i64) j ∧ x = (Value.int .i64) (p / pow8 j)) (fun _ t => l - (intOf t).toNat)
        case atStart => exact ⟨0, by omega, rfl, by simp [pow8]⟩
        case round =>
          obtain ⟨j, hj, rfl, rfl⟩ := hrel
          obtain ⟨b0, b1⟩ := div_pow8_bd p0 p1 j
          have hd := Lib.hid (div_pow8 p j)
          by_cases hjl : j < l
          · go_wp2
            go_round
            case rel => exact ⟨j + 1, by omega, by go_num, by rw [← hd.out]⟩
            case measure => simp [intOf]; omega
          · obtain rfl : j = l := by omega
            go_wp2
            go_ret
            exact ⟨by rw [hy.out]; rfl, rfl⟩
      · have hy := Lib.hid (show index p l = -1 by unfold index; rw [if_neg (by omega)])
        go_enter Try.func62, Try.ntmps62
        go_wp2_with (first | (go_at_call 72; refine (has_any _ _).mono ?_; rintro e w' ⟨rfl, rfl⟩))
        go_ret
        exact ⟨by rw [hy.out]; rfl, rfl⟩
    · have hy := Lib.hid (show index p l = -1 by unfold index; rw [if_neg (by omega)])
      go_enter Try.func62, Try.ntmps62
      go_wp2_with (first | (go_at_call 72; refine (has_any _ _).mono ?_; rintro e w' ⟨rfl, rfl⟩))
      go_ret
      exact ⟨by rw [hy.out]; rfl, rfl⟩
  · have hp0 : hasB p = false := by simpa using hp
    have hy := Lib.hid (show index p l = -1 by unfold index; rw [if_neg (by unfold hasB at hp0; simp at hp0; omega)])
    go_enter Try.func62, Try.ntmps62
    go_wp2_with (first | (go_at_call 72; refine (has_any _ _).mono ?_; rintro e w' ⟨rfl, rfl⟩))
    go_ret
    exact ⟨by rw [hy.out]; rfl, rfl⟩
end Go.Proofs.Ytegkimecdonfgaa
namespace Go.Proofs.Ytegkimecdonfgaa
open Go.RowKit
set_option maxRecDepth 100000
instance : Std.Associative (α := HProp) (fun a b => a * b) := ⟨star_assoc⟩
instance : Std.Commutative (α := HProp) (fun a b => a * b) := ⟨star_comm⟩
namespace Ms
def topV (s : Ms) : Int := match s.top with | some k => (k : Int) | none => -1
def takeS (s : Ms) : Ms := match s.top with | some k => s.take k | none => s
def giveS (s : Ms) (k : Int) : Ms := if s.has k then s.give k.toNat else s
/-- It is whole, and no greater than may be. -/
structure Ok (s : Ms) : Prop where
  inv : s.Inv
  small : s.n ≤ 128
theorem takeS_n (s : Ms) : s.takeS.n = s.n := by unfold takeS; split <;> rfl
theorem giveS_n (s : Ms) (k : Int) : (s.giveS k).n = s.n := by unfold giveS; split <;> rfl
theorem Ok.new {n : Nat} (h : n ≤ 128) : (Ms.new n).Ok := ⟨Inv.new n, h⟩
theorem Ok.takeS {s : Ms} (h : s.Ok) : s.takeS.Ok := by
  refine ⟨?_, by rw [takeS_n]; exact h.small⟩
  unfold Ms.takeS
  split
  · rename_i k hk
    exact h.inv.take hk
  · exact h.inv
theorem Ok.giveS {s : Ms} (h : s.Ok) (k : Int) : (s.giveS k).Ok := by
  refine ⟨?_, by rw [giveS_n]; exact h.small⟩
  unfold Ms.giveS
  split
  · rename_i hk
    exact h.inv.give (has_iff.1 hk).2.2
  · exact h.inv
end Ms
theorem storeS_n (s : Ms) (k i v : Int) : (storeS s k i v).n = s.n := by unfold storeS; split <;> rfl
theorem Ms.Ok.storeS {s : Ms} (h : s.Ok) (k i : Int) {v : Int} (hv : u64 v) : (storeS s k i v).Ok := by
  refine ⟨?_, by rw [storeS_n]; exact h.small⟩
  unfold Go.Proofs.Ytegkimecdonfgaa.storeS
  split
  · exact h.inv.setW _ _ hv
  · exact h.inv
def memAt (q : Nat) (s : Ms) : HProp := ex fun gw => ex fun gi => ex fun vk => memIn q gw gi vk s (lift True)
section
variable {p q g gw gi : Nat} {vf vk : Value} {s : Ms} {R : HProp} {w : World}
theorem memAt_open (h : Has w (memAt q s * R)) : ∃ gw gi vk, Has w (memIn q gw gi vk s R) := by
  unfold memAt at h
  obtain ⟨gw, h⟩ := has_ex_star.1 h
  obtain ⟨gi, h⟩ := has_ex_star.1 h
  obtain ⟨vk, h⟩ := has_ex_star.1 h
  refine ⟨gw, gi, vk, ?_⟩
  unfold memIn at h ⊢
  simpa only [star_assoc, star_true] using h
theorem memAt_shut (h : Has w (memIn q gw gi vk s R)) : Has w (memAt q s * R) := by
  unfold memAt
  refine has_ex_star.2 ⟨gw, has_ex_star.2 ⟨gi, has_ex_star.2 ⟨vk, ?_⟩⟩⟩
  unfold memIn at h ⊢
  simpa only [star_assoc, star_true] using h
end
section
variable (p q : Nat) (s : Ms) (k i v o : Int) (R : HProp) (w : World)
theorem takenF (h : Has w (framesAt p s * R)) : Calls Try.prog 42 #[.pointer (some ⟨p, 0, none⟩), .int .i64 k] w (Same (Value.bool (s.has k)) w) := by
  obtain ⟨g, vf, h⟩ := framesAt_open h
  exact taken_any p g vf s k R w h
theorem loadF (h : Has w (framesAt p s * R)) : Calls Try.prog 30 #[.pointer (some ⟨p, 0, none⟩), .int .i64 k, .int .i64 i] w (Same (.tuple #[(Value.int .u64) (loadV s k i), Value.bool (s.hasW k i)]) w) := by
  obtain ⟨g, vf, h⟩ := framesAt_open h
  exact load_any p g vf s k i R w h
theorem freeF (h : Has w (framesAt p s * R)) : Calls Try.prog 25 #[.pointer (some ⟨p, 0, none⟩)] w (Same ((Value.int .i64) (s.frees.length : Nat)) w) := by
  obtain ⟨g, vf, h⟩ := framesAt_open h
  exact free_any p g vf s R w h
theorem storeF (h : Has w (framesAt p s * R)) :
    Calls Try.prog 31 #[.pointer (some ⟨p, 0, none⟩), .int .i64 k, .int .i64 i, .int .u64 v] w (Res (Value.bool (s.hasW k i)) (framesAt p (storeS s k i v) * R) w) := by
  obtain ⟨g, vf, h⟩ := framesAt_open h
  exact (store_any p g vf s k i v R w h).mono fun _ _ ⟨a, b, c⟩ => ⟨a, framesAt_shut b, c⟩
theorem takeF (h : Has w (framesAt p s * R)) (hs : s.Ok) : Calls Try.prog 21 #[.pointer (some ⟨p, 0, none⟩)] w (Res ((Value.int .i64) s.topV) (framesAt p s.takeS * R) w) := by
  obtain ⟨g, vf, h⟩ := framesAt_open h
  unfold Ms.topV Ms.takeS
  cases ht : s.top with
  | some k => exact (take_any p g vf s k R w h ht (Ms.top_lt hs.inv ht).1).mono fun _ _ ⟨_, a, b, c⟩ => ⟨a, framesAt_shut b, c⟩
  | none => exact (take_none p g vf s R w h ht).mono fun _ _ ⟨a, b⟩ => ⟨a, b ▸ framesAt_shut h, b ▸ Ext.refl _⟩
theorem giveF (h : Has w (framesAt p s * R)) (hs : s.Ok) : Calls Try.prog 17 #[.pointer (some ⟨p, 0, none⟩), .int .i64 k] w (Res (Value.bool (s.has k)) (framesAt p (s.giveS k) * R) w) := by
  obtain ⟨g, vf, h⟩ := framesAt_open h
  unfold Ms.giveS
  cases ht : s.has k with
  | true =>
    obtain ⟨k0, k1, _⟩ := Ms.has_iff.1 ht
    obtain ⟨k, rfl⟩ := Int.eq_ofNat_of_zero_le k0
    have := Ms.frees_le hs.inv
    have := hs.small
    exact (give_yes p g vf s k R w h ht (by omega)).mono fun _ _ ⟨_, a, b, c⟩ => ⟨a, framesAt_shut (by simpa using b), c⟩
  | false => exact (give_no p g vf s k R w h ht).mono fun _ _ ⟨a, b⟩ => ⟨a, b ▸ framesAt_shut h, b ▸ Ext.refl _⟩
theorem takenM (h : Has w (memAt q s * R)) : Calls Try.prog 58 #[.pointer (some ⟨q, 0, none⟩), .int .i64 k] w (Same (Value.bool (s.has k)) w) := by
  obtain ⟨gw, gi, vk, h⟩ := memAt_open h
  exact memTaken_any q gw gi vk s k R w h
theorem takeM (h : Has w (memAt q s * R)) (hs : s.Ok) : Calls Try.prog 22 #[.pointer (some ⟨q, 0, none⟩)] w (Res ((Value.int .i64) s.topV) (memAt q s.takeS * R) w) := by
  obtain ⟨gw, gi, vk, h⟩ := memAt_open h
  have := hs.small
  unfold Ms.topV Ms.takeS
  cases ht : s.top with
  | some k => exact (memTake_any q gw gi vk s k R w h hs.inv (by omega) ht).mono fun _ _ ⟨_, a, b, c⟩ => ⟨a, memAt_shut b, c⟩
  | none => exact (memTake_none q gw gi vk s R w h ht).mono fun _ _ ⟨a, b⟩ => ⟨a, (memAt_shut h).below b, (Ext.refl w).below b⟩
theorem newF (n : Int) (h : Has w R) (h0 : 0 ≤ n) (h1 : n ≤ 128) :
    Calls Try.prog 56 #[.int .i64 n] w fun e w' => ∃ p, Res (.tuple #[.pointer (some ⟨p, 0, none⟩), .agg #[(Value.int .i64) 0, (Value.int .i64) 0]]) (framesAt p (Ms.new n.toNat) * R) w e w' := by
  obtain ⟨n, rfl⟩ := Int.eq_ofNat_of_zero_le h0
  exact (new_frames n (by omega) R w h).mono fun _ _ ⟨p, _, _, a, b, c⟩ => ⟨p, a, framesAt_shut b, c⟩
theorem newM (n : Int) (h : Has w R) (h0 : 0 ≤ n) (h1 : n ≤ 128) :
    Calls Try.prog 57 #[.int .i64 n] w fun e w' => ∃ q, Res (.pointer (some ⟨q, 0, none⟩)) (memAt q (Ms.new n.toNat) * R) w e w' := by
  obtain ⟨n, rfl⟩ := Int.eq_ofNat_of_zero_le h0
  exact (newMem_any n (by omega) R w h).mono fun _ _ ⟨p, _, _, _, a, b, c⟩ => ⟨p, a, memAt_shut b, c⟩
end
/-- A word of a memory, by its cell. -/
theorem mem_word {q gw gi : Nat} {vk : Value} {s : Ms} {R : HProp} {w : World} (h : Has w (memIn q gw gi vk s R)) {k i : Nat} (hk : k < s.n) (hi : i < 8) :
    w.cell? ⟨gw, k * 8 + i, none⟩ = some ((Value.int .u64) (s.wd k i)) := by
  rw [h.right.tabGet (by omega)]
  unfold wc
  rw [show (k * 8 + i) / 8 = k by omega, show (k * 8 + i) % 8 = i by omega]
theorem wc_setW (s : Ms) (k i : Nat) (v : Int) (hi : i < 8) (j : Nat) : fput (wc s) (k * 8 + i) ((Value.int .u64) v) j = wc (s.setW k i v) j := by
  unfold fput wc Ms.setW
  dsimp only
  by_cases h : j = k * 8 + i
  · subst h
    rw [if_pos rfl, show (k * 8 + i) / 8 = k by omega, show (k * 8 + i) % 8 = i by omega, if_pos ⟨rfl, rfl⟩]
  · rw [if_neg h, if_neg (by omega)]
theorem mem_setW {q gw gi : Nat} {vk : Value} {s : Ms} {R : HProp} {w : World} (h : Has w (memIn q gw gi vk s R)) {k i : Nat} (hi : i < 8) (v : Int) :
    Has (w.setCell ⟨gw, k * 8 + i, none⟩ ((Value.int .u64) v)) (memIn q gw gi vk (s.setW k i v) R) :=
  ((h.p2.tabSet _ _).tabExt fun j _ => wc_setW s k i v hi j).p2
end Go.Proofs.Ytegkimecdonfgaa
