/- A list of all mappings is the book, and a list of all tables has each once; with no program in sight. -/
import Derived.Test.YtmfheghbgihdmaaTblM3
import Derived.Test.YtmfheghbgihdmaaTabF
import Derived.Test.YtmfheghbgihdmaaFrames2
import Derived.Lib.Hide
import Derived.Lib.SliceRun
import Derived.Outline
import Derived.BigQuiet
import Derived.Deep.LoopGhost
import Derived.Shelf.Abstract
import Derived.Test.YtmfheghbgihdmaaEntry2
import Derived.Test.YtmfheghbgihdmaaWkr3
import Derived.Test.YtmfheghbgihdmaaEntMap
import Derived.Test.YtmfheghbgihdmaaWkFind
import Derived.Deep.RegionHeld3
import Derived.Deep.DeepCutAuto
namespace Go.Proofs.Ytmfheghbgihdmaa
open Go.RowKit
section
variable {s : Ms} {r : Int} {gone : List Int} {X : Int → Prop}
theorem scan_code (s : Ms) (L : Nat) (t a : Int) : ∀ is : List Nat, (∀ i ∈ is, decC (wordV s t i) L = 0 ∧ ((decE (wordV s t i) L).there = true ∧ (decE (wordV s t i) L).leaf = false → (subV s L (decE (wordV s t i) L).frame (a * 8 + i)).code = 0)) → (scanV s L t a (subV s L) is).code = 0
  | [], _ => rfl
  | i :: is, h => by
    obtain ⟨h1, h2⟩ := h i (List.mem_cons_self ..)
    have ih := scan_code s L t a is fun j hj => h j (List.mem_cons_of_mem _ hj)
    unfold scanV
    rw [if_neg (by rw [h1]; simp)]
    dsimp only
    by_cases he : (decE (wordV s t i) L).there = true ∧ (decE (wordV s t i) L).leaf = false
    · rw [if_pos he, if_neg (by rw [h2 he]; simp)]
      exact ih
    · rw [if_neg he, if_neg (by simp)]
      exact ih
/-- What a look over all entries below a table comes to. -/
structure AllOk (s : Ms) (r : Int) (L : Nat) (t a : Int) : Prop where
  code : (eachV s L t a).code = 0
  maps : ∀ m ∈ mapsOf (eachV s L t a).vs, MapOk m ∧ a * pow8 (L + 1) ≤ m.page ∧ m.page + span m.size ≤ (a + 1) * pow8 (L + 1)
  up : (mapsOf (eachV s L t a).vs).Pairwise fun x y => x.page + span x.size ≤ y.page
  tabs : ∀ u, u ∈ tabsOf (eachV s L t a).vs ↔ ∃ q e, InP q ∧ q / pow8 (L + 1) = a ∧ 3 - L < e ∧ e ≤ 3 ∧ tabD s r q e = some u
  nd : (tabsOf (eachV s L t a).vs).Nodup
theorem pre_at {q a : Int} {L i : Nat} (hq : InP q) (hL : L ≤ 3) (h : q / pow8 (L + 1) = a) (hi : index q L = i) : q / pow8 L = a * 8 + i := by
  have h0 := pow8_pos L
  rw [pow8_succ, Int.mul_comm, ← Int.ediv_ediv_of_nonneg (by omega)] at h
  unfold index at hi
  rw [if_pos ⟨hq.1, hq.2, by omega, by omega⟩, Int.toNat_natCast] at hi
  omega
/-- What one entry gives. -/
structure OneOk (s : Ms) (r : Int) (L : Nat) (t a : Int) (i : Nat) : Prop where
  code : decC (wordV s t i) L = 0 ∧ ((decE (wordV s t i) L).there = true ∧ (decE (wordV s t i) L).leaf = false → (subV s L (decE (wordV s t i) L).frame (a * 8 + i)).code = 0)
  maps : ∀ m ∈ contr s L t a i, MapOk m ∧ (a * 8 + i) * pow8 L ≤ m.page ∧ m.page + span m.size ≤ (a * 8 + i + 1) * pow8 L
  up : (contr s L t a i).Pairwise fun x y => x.page + span x.size ≤ y.page
  tabs : ∀ u, u ∈ contrT s L t a i ↔ ∃ q e, InP q ∧ q / pow8 L = a * 8 + i ∧ 3 - L < e ∧ e ≤ 3 ∧ tabD s r q e = some u
  nd : (contrT s L t a i).Nodup
theorem leaf_mapOk {w : Int} {L : Nat} {p : Int} (hp : InP p) (hc : decC w L = 0) (hl : (decE w L).leaf = true) : MapOk (leafMap (decE w L) L p) ∧ leafMap (decE w L) L p = ⟨p / pow8 L * pow8 L, L, (decE w L).frame, (decE w L).rights⟩ ∧ L < 3 := by
  obtain ⟨ht, _, h3, _, hf⟩ := dec_leaf hc hl
  have h3' : L < 3 := by omega
  have hs := span_pow h3'
  have e1 := leafMap_eq hp hf hl hs
  have hk := entOk_of hf ht
  have hL := (hk.leaf hl).2
  rw [hs] at hL
  have k1 := hk.r0; have k2 := hk.r7; have k3 := hk.f0; have k4 := hk.f1
  have hp' : 0 ≤ p ∧ p < 4096 := hp
  refine ⟨?_, e1, h3'⟩
  rw [e1]
  refine mapOk_of ?_
  unfold check
  dsimp only
  rw [hs]
  have h8 := pow8_pos L
  have hd : L = 0 ∨ L = 1 ∨ L = 2 := by omega
  rw [if_neg (by omega), if_neg, if_neg]
  · rw [Int.mul_emod_left]; omega
  · generalize (decE w L).rights = ri at *
    generalize (decE w L).frame = fr at *
    clear e1 ht hl hf hk hL hs h8 hc
    rcases hd with h | h | h <;> rw [h] <;> simp only [pow8] <;> omega
theorem one_ok (hw : Wf s r gone X) {L : Nat} (hL : L ≤ 3) {p t a : Int} (hp : InP p) (ht : tabD s r p (3 - L) = some t) (ha : p / pow8 (L + 1) = a) (i : Nat) (hi : i < 8)
    (ih : ∀ K, L = K + 1 → ∀ {q u : Int}, InP q → tabD s r q (3 - K) = some u → AllOk s r K u (q / pow8 (K + 1))) : OneOk s r L t a i := by
  obtain ⟨q, hq, hpre, hix, hmod⟩ := page_at hp hL i hi
  rw [ha] at hpre
  have hq8 := pre_at hq hL hpre hix
  have e33 : 3 - (3 - L) = L := by omega
  have hqt : tabD s r q (3 - L) = some t := by
    rw [← ht]
    refine tabD_prefix s r hq hp (3 - L) (by omega) ?_
    rw [show 4 - (3 - L) = L + 1 by omega, hpre, ha]
  have hdec : decC (wordV s t i) L = 0 := by
    have := hw.dec hq (show 3 - L ≤ 3 by omega) hqt i hi
    rw [e33] at this
    exact this
  have h0 := pow8_pos L
  have hqe : q = (a * 8 + i) * pow8 L := by
    have := Int.mul_ediv_add_emod q (pow8 L)
    rw [hq8, hmod] at this
    rw [Int.mul_comm]
    omega
  by_cases hl : (decE (wordV s t i) L).leaf = true
  · obtain ⟨m1, m2, h3⟩ := leaf_mapOk hq hdec hl
    have hc : contr s L t a i = [leafMap (decE (wordV s t i) L) L q] := by
      unfold contr
      dsimp only
      rw [if_pos hl, hqe]
    have hT : contrT s L t a i = [] := by
      unfold contrT
      dsimp only
      rw [if_neg (by rw [hl]; simp)]
    refine ⟨⟨hdec, fun h => by rw [hl] at h; cases h.2⟩, fun m hm => ?_, ?_, fun u => ?_, by rw [hT]; exact List.nodup_nil⟩
    · rw [hc, List.mem_singleton] at hm
      subst hm
      refine ⟨m1, ?_, ?_⟩
      · rw [m2, hq8]; exact Int.le_refl _
      · rw [m2, hq8]
        dsimp only
        rw [span_pow h3]
        have : (a * 8 + (i : Int) + 1) * pow8 L = (a * 8 + i) * pow8 L + pow8 L := by rw [Int.add_mul (a * 8 + i) 1, Int.one_mul]
        omega
    · rw [hc]; exact List.pairwise_singleton _ _
    · rw [hT]
      constructor
      · intro h; cases h
      · rintro ⟨x, e, hx, hx8, h1, h2, h3⟩
        exfalso
        have hxt : tabD s r x (3 - L) = some t := by
          rw [← hqt]
          refine tabD_prefix s r hx hq (3 - L) (by omega) ?_
          rw [show 4 - (3 - L) = L + 1 by omega]
          exact div_up (by omega) (hx8.trans hq8.symm)
        have hxi : index x L = i := by rw [index_div hx hq (hx8.trans hq8.symm)]; exact hix
        have hg : goB s x t (3 - (3 - L)) = false := by
          rw [e33]
          unfold goB eOf
          rw [hxi, hl]
          simp
        rw [tabD_none_mono (tabD_none hxt hg) e (by omega)] at h3
        cases h3
  · have hl' : (decE (wordV s t i) L).leaf = false := by simpa using hl
    by_cases hth : (decE (wordV s t i) L).there = true
    · -- a table
      have hg : goB s q t L = true := by
        refine goB_iff.2 ⟨(hw.at_ hq (show 3 - L ≤ 3 by omega) hqt).1, by rw [hix]; exact hdec, ?_, ?_⟩
        · unfold eOf; rw [hix]; exact hth
        · unfold eOf; rw [hix]; exact hl'
      cases L with
      | zero =>
        exfalso
        rcases dec0_leaf hdec with h | h
        · have h' : (decE (wordV s t i) (0 : Nat)).there = false := h
          rw [h'] at hth; cases hth
        · exact hl h
      | succ K =>
        have hv : tabD s r q (3 - K) = some (decE (wordV s t i) (K + 1 : Nat)).frame := by
          rw [show 3 - K = 3 - (K + 1) + 1 by omega]
          refine tabD_succ.2 ⟨t, hqt, by rw [e33]; exact hg, ?_⟩
          rw [e33]
          unfold eOf
          rw [hix]
        have hA := ih K rfl hq hv
        rw [hq8] at hA
        have hc : contr s (K + 1) t a i = mapsOf (eachV s K (decE (wordV s t i) (K + 1 : Nat)).frame (a * 8 + i)).vs := by
          unfold contr
          dsimp only
          rw [if_neg hl, if_pos hth]
          rfl
        have hT : contrT s (K + 1) t a i = (decE (wordV s t i) (K + 1 : Nat)).frame :: tabsOf (eachV s K (decE (wordV s t i) (K + 1 : Nat)).frame (a * 8 + i)).vs := by
          unfold contrT
          dsimp only
          rw [if_pos ⟨hth, hl'⟩]
          rfl
        refine ⟨⟨hdec, fun _ => hA.code⟩, fun m hm => ?_, by rw [hc]; exact hA.up, fun u => ?_, ?_⟩
        · rw [hc] at hm
          exact hA.maps m hm
        · rw [hT, List.mem_cons, hA.tabs u]
          constructor
          · rintro (rfl | ⟨x, e, hx, hx8, h1, h2, h3⟩)
            · exact ⟨q, 3 - K, hq, hq8, by omega, by omega, hv⟩
            · exact ⟨x, e, hx, hx8, by omega, h2, h3⟩
          · rintro ⟨x, e, hx, hx8, h1, h2, h3⟩
            by_cases he : e = 3 - K
            · subst he
              have : tabD s r x (3 - K) = tabD s r q (3 - K) := by
                refine tabD_prefix s r hx hq (3 - K) (by omega) ?_
                rw [show 4 - (3 - K) = K + 1 by omega]
                exact hx8.trans hq8.symm
              rw [h3, hv] at this
              injection this with this
              exact .inl this
            · exact .inr ⟨x, e, hx, hx8, by omega, h2, h3⟩
        · rw [hT, List.nodup_cons]
          refine ⟨fun hm => ?_, hA.nd⟩
          obtain ⟨x, e, hx, hx8, h1, h2, h3⟩ := (hA.tabs _).1 hm
          have := (hw.inj x q e (3 - K) _ hx hq h2 (by omega) h3 hv).1
          omega
    · -- nothing
      have hc : contr s L t a i = [] := by
        unfold contr
        dsimp only
        rw [if_neg hl, if_neg hth]
      have hT : contrT s L t a i = [] := by
        unfold contrT
        dsimp only
        rw [if_neg (fun h => hth h.1)]
      refine ⟨⟨hdec, fun h => absurd h.1 hth⟩, fun m hm => (by rw [hc] at hm; cases hm), (by rw [hc]; exact List.Pairwise.nil), fun u => ?_, (by rw [hT]; exact List.nodup_nil)⟩
      rw [hT]
      constructor
      · intro h; cases h
      · rintro ⟨x, e, hx, hx8, h1, h2, h3⟩
        exfalso
        have hxt : tabD s r x (3 - L) = some t := by
          rw [← hqt]
          refine tabD_prefix s r hx hq (3 - L) (by omega) ?_
          rw [show 4 - (3 - L) = L + 1 by omega]
          exact div_up (by omega) (hx8.trans hq8.symm)
        have hxi : index x L = i := by rw [index_div hx hq (hx8.trans hq8.symm)]; exact hix
        have hth' : (decE (wordV s t i) L).there = false := by simpa using hth
        have hg : goB s x t (3 - (3 - L)) = false := by
          rw [e33]
          unfold goB eOf
          rw [hxi, hth']
          simp
        rw [tabD_none_mono (tabD_none hxt hg) e (by omega)] at h3
        cases h3
theorem all_step (hw : Wf s r gone X) {L : Nat} (hL : L ≤ 3) {p t : Int} (hp : InP p) (ht : tabD s r p (3 - L) = some t)
    (ih : ∀ K, L = K + 1 → ∀ {q u : Int}, InP q → tabD s r q (3 - K) = some u → AllOk s r K u (q / pow8 (K + 1))) : AllOk s r L t (p / pow8 (L + 1)) := by
  have hone := fun i hi => one_ok hw hL hp ht rfl i hi ih
  generalize hpa : p / pow8 (L + 1) = a at *
  have hhas := (hw.at_ hp (show 3 - L ≤ 3 by omega) ht).1
  have hcode : (scanV s L t a (subV s L) (List.range 8)).code = 0 := scan_code s L t a _ fun i hi => (hone i (List.mem_range.1 hi)).code
  obtain ⟨_, hm, hT⟩ := scan_ok s L t a (List.range 8) hcode
  have ee : eachV s L t a = scanV s L t a (subV s L) (List.range 8) := by rw [eachV_eq, hhas]; rfl
  have h8 := pow8_pos L
  have hexp : a * pow8 (L + 1) = a * 8 * pow8 L := by rw [pow8_succ, Int.mul_assoc]
  have hexp1 : (a + 1) * pow8 (L + 1) = a * 8 * pow8 L + 8 * pow8 L := by rw [Int.add_mul, Int.one_mul, hexp, pow8_succ]
  have hrg : ∀ i : Nat, (a * 8 + (i : Int)) * pow8 L = a * 8 * pow8 L + i * pow8 L := fun i => Int.add_mul _ _ _
  have hrg1 : ∀ i : Nat, (a * 8 + (i : Int) + 1) * pow8 L = a * 8 * pow8 L + i * pow8 L + pow8 L := fun i => by rw [Int.add_mul, Int.add_mul, Int.one_mul]
  have hmul : ∀ i j : Nat, i ≤ j → (i : Int) * pow8 L ≤ j * pow8 L := fun i j h => Int.mul_le_mul_of_nonneg_right (by omega) (by omega)
  refine ⟨by rw [ee]; exact hcode, fun m hmm => ?_, ?_, fun u => ?_, ?_⟩
  · rw [ee, hm] at hmm
    obtain ⟨i, hi, hmi⟩ := List.mem_flatMap.1 hmm
    have hi8 := List.mem_range.1 hi
    obtain ⟨c1, c2, c3⟩ := (hone i hi8).maps m hmi
    rw [hrg] at c2
    rw [hrg1] at c3
    have a1 := hmul 0 i (by omega)
    have a2 := hmul (i + 1) 8 (by omega)
    refine ⟨c1, by rw [hexp]; simp at a1; omega, ?_⟩
    rw [hexp1]
    have e2 : ((i + 1 : Nat) : Int) * pow8 L = i * pow8 L + pow8 L := by rw [Int.natCast_add, Int.add_mul]; simp
    have e3 : ((8 : Nat) : Int) * pow8 L = 8 * pow8 L := rfl
    omega
  · rw [ee, hm, List.pairwise_flatMap]
    refine ⟨fun i hi => (hone i (List.mem_range.1 hi)).up, ?_⟩
    rw [List.pairwise_iff_getElem]
    intro i j hi hj hij x hx y hy
    simp only [List.length_range] at hi hj
    simp only [List.getElem_range] at hx hy
    obtain ⟨_, _, c3⟩ := (hone i hi).maps x hx
    obtain ⟨_, d2, _⟩ := (hone j hj).maps y hy
    rw [hrg1] at c3
    rw [hrg] at d2
    have a2 := hmul (i + 1) j (by omega)
    have e2 : ((i + 1 : Nat) : Int) * pow8 L = i * pow8 L + pow8 L := by rw [Int.natCast_add, Int.add_mul]; simp
    omega
  · rw [ee, hT, List.mem_flatMap]
    constructor
    · rintro ⟨i, hi, hu⟩
      obtain ⟨q, e, hq, hq8, h1, h2, h3⟩ := ((hone i (List.mem_range.1 hi)).tabs u).1 hu
      refine ⟨q, e, hq, ?_, h1, h2, h3⟩
      rw [pow8_succ, Int.mul_comm, ← Int.ediv_ediv_of_nonneg (by omega), hq8]
      have := List.mem_range.1 hi
      omega
    · rintro ⟨q, e, hq, hq8, h1, h2, h3⟩
      have hi := index_range hq hL
      refine ⟨(index q L).toNat, List.mem_range.2 (by omega), ((hone _ (by omega)).tabs u).2 ⟨q, e, hq, ?_, h1, h2, h3⟩⟩
      exact pre_at hq hL hq8 (by omega)
  · rw [ee, hT]
    unfold List.Nodup
    rw [List.pairwise_flatMap]
    refine ⟨fun i hi => (hone i (List.mem_range.1 hi)).nd, ?_⟩
    rw [List.pairwise_iff_getElem]
    intro i j hi hj hij x hx y hy hxy
    simp only [List.length_range] at hi hj
    simp only [List.getElem_range] at hx hy
    subst hxy
    obtain ⟨q, e, hq, hq8, h1, h2, h3⟩ := ((hone i hi).tabs x).1 hx
    obtain ⟨q', e', hq', hq8', h1', h2', h3'⟩ := ((hone j hj).tabs x).1 hy
    obtain ⟨rfl, hpre⟩ := hw.inj q q' e e' x hq hq' h2 h2' h3 h3'
    have := div_up (show 4 - e ≤ L by omega) hpre
    omega
theorem all_ok (hw : Wf s r gone X) : ∀ L, L ≤ 3 → ∀ {p t : Int}, InP p → tabD s r p (3 - L) = some t → AllOk s r L t (p / pow8 (L + 1)) := by
  intro L
  induction L with
  | zero => intro hL p t hp ht; exact all_step hw hL hp ht fun K hK => by omega
  | succ L ih =>
    intro hL p t hp ht
    refine all_step hw hL hp ht fun K hK => ?_
    obtain rfl : L = K := by omega
    exact ih (by omega)
/-- All that a root's tables map. -/
def allM (s : Ms) (r : Int) : List Mp := mapsOf (eachV s 3 r 0).vs
def allT (s : Ms) (r : Int) : List Int := r :: tabsOf (eachV s 3 r 0).vs
theorem list_link (hw : Wf s r gone X) : (eachV s 3 r 0).code = 0 ∧ Lk s r (allM s r) ∧ (allT s r).Nodup ∧ ∀ t, t ∈ allT s r ↔ InT s r t := by
  have hA : AllOk s r 3 r ((0 : Int) / pow8 (3 + 1)) := all_ok hw 3 (by omega) (show InP 0 from ⟨by omega, by omega⟩) rfl
  have e0 : (0 : Int) / pow8 (3 + 1) = 0 := by decide
  rw [e0] at hA
  have htop : ∀ q, InP q → q / pow8 (3 + 1) = 0 := fun q hq => by
    have h4 : pow8 (3 + 1) = 4096 := rfl
    rw [h4]
    have := hq.1; have := hq.2
    omega
  refine ⟨hA.code, ⟨⟨fun m hm => (hA.maps m hm).1, hA.up⟩, fun q hq => ?_⟩, ?_, fun t => ?_⟩
  · have hl := (list_way s q hq.1 hq.2 3 (by omega) r 0 [] hA.code (by omega) (by decide)).2 (htop q hq)
    have hwy : way s r q = wayA s q 3 r [] := by
      unfold way
      rw [if_pos (by unfold hasB; rw [decide_eq_true hq.1, decide_eq_true hq.2]; rfl)]
    show (mapsOf (eachV s 3 r 0).vs).find? (fun m => over m q) = mapAt s r q
    rw [← List.head?_filter, hl.2.1, ← hwy]
    unfold mapAt
    split <;> rfl
  · unfold allT
    rw [List.nodup_cons]
    refine ⟨fun hm => ?_, hA.nd⟩
    obtain ⟨q, e, hq, _, h1, h2, h3⟩ := (hA.tabs r).1 hm
    have := (hw.inj q q e 0 r hq hq h2 (by omega) h3 rfl).1
    omega
  · unfold allT
    rw [List.mem_cons, hA.tabs t]
    constructor
    · rintro (rfl | ⟨q, e, hq, _, h1, h2, h3⟩)
      · exact ⟨0, 0, ⟨by omega, by omega⟩, by omega, rfl⟩
      · exact ⟨q, e, hq, h2, h3⟩
    · rintro ⟨q, e, hq, h2, h3⟩
      cases e with
      | zero => injection h3 with h3; exact .inl h3.symm
      | succ e => exact .inr ⟨q, e + 1, hq, htop q hq, by omega, h2, h3⟩
end
end Go.Proofs.Ytmfheghbgihdmaa
namespace Go.Proofs.Ytmfheghbgihdmaa
open Go.RowKit
section
variable (f : Nat) (s : Ms) (gone : List Int) (X : Int → Prop) (hw : Wf s 0 gone X) (R : HProp) (w : World) (h : Has w (frA f s * R))
include hw h
theorem listW : Calls Try.prog 28 #[.pointer (some ⟨f, 0, none⟩), (Value.int .i64) 0] w fun e w' => ∃ A c, e = .returned (.tuple #[.slice A (allM s 0).length c, (Value.int .i64) 0]) ∧ Has w' (mrow (.slice A (allM s 0).length c) (allM s 0) * (frA f s * R)) ∧ Ext w w' := by
  refine (listA f s R w h 0).mono ?_
  have hc := (list_link hw).1
  have e1 : listM (eachV s 3 0 0) = allM s 0 := by unfold listM allM; rw [if_pos hc]
  rintro e w' ⟨A, c, he, h2, x2⟩
  rw [e1] at he h2
  rw [hc] at he
  exact ⟨A, c, he, h2, x2⟩
end
end Go.Proofs.Ytmfheghbgihdmaa
namespace Go.Proofs.Ytmfheghbgihdmaa
open Go.RowKit
set_option maxRecDepth 100000
@[go_sem] def Ln.val (x : Ln) : Value := .agg #[(Value.int .i64) x.m.page, (Value.int .i64) x.m.size, (Value.int .i64) x.m.frame, (Value.int .i64) x.m.rights, Value.bool x.dirty]
def lnZero : Value := .agg #[(Value.int .i64) 0, (Value.int .i64) 0, (Value.int .i64) 0, (Value.int .i64) 0, Value.bool false]
theorem elemLn : Elem Try.prog 100 lnZero 5 40 := ⟨by kernel_rfl, rfl, by omega⟩
theorem ln_len (x : Ln) : x.cells.length = 5 := rfl
/-- A row of lines at value v. -/
def lrow (v : Value) (l : List Ln) : HProp := row 100 5 v l.length (lcells l)
section
variable {w : World} {R : HProp} {A : Option Addr} {n c : Nat} {l : List Ln}
theorem lrow_len (h : Has w (lrow (.slice A n c) l * R)) : n = l.length := by
  rcases Has.rowCases (e := 100) (size := 5) h with ⟨hv, h0, _⟩ | ⟨g, cap, cur, hv, _⟩
  · injection hv with a b
    omega
  · injection hv
theorem lrow_small (h : Has w (lrow (.slice A n c) l * R)) : n ≤ 9223372036854775807 ∧ n ≤ c := by
  obtain rfl := lrow_len h
  refine ⟨(Has.rowLens (e := 100) (size := 5) h).2, ?_⟩
  rcases Has.rowCases (e := 100) (size := 5) h with ⟨hv, h0, _⟩ | ⟨g, cap, cur, hv, h1, _⟩
  · injection hv with a b
    omega
  · injection hv with a b d
    omega
/-- The cells of one of them. -/
theorem lrow_at (h : Has w (lrow (.slice A n c) l * R)) {k : Nat} (hk : k < l.length) :
    ∃ b, A = some ⟨b, 0, none⟩ ∧ b < w.heap.size ∧
      (w.cell? ⟨b, k * 5, none⟩ = some ((Value.int .i64) l[k].m.page) ∧ w.cell? ⟨b, k * 5 + 1, none⟩ = some ((Value.int .i64) l[k].m.size) ∧ w.cell? ⟨b, k * 5 + 2, none⟩ = some ((Value.int .i64) l[k].m.frame) ∧ w.cell? ⟨b, k * 5 + 3, none⟩ = some ((Value.int .i64) l[k].m.rights) ∧ w.cell? ⟨b, k * 5 + 4, none⟩ = some (Value.bool l[k].dirty)) ∧
      (w.frozen? ⟨b, k * 5, none⟩ = false ∧ w.frozen? ⟨b, k * 5 + 1, none⟩ = false ∧ w.frozen? ⟨b, k * 5 + 2, none⟩ = false ∧ w.frozen? ⟨b, k * 5 + 3, none⟩ = false ∧ w.frozen? ⟨b, k * 5 + 4, none⟩ = false) := by
  obtain rfl := lrow_len h
  have g := fun t (ht : t < 5) => Has.rowGet (e := 100) (size := 5) h (i := k * 5 + t) (u := (l[k].cells[t]'(by rw [ln_len]; exact ht))) (by
    have := flat_get (cells := Ln.cells) ln_len hk ht
    rw [List.getElem?_eq_getElem (l := l[k].cells) (by rw [ln_len]; exact ht)] at this
    exact this)
  obtain ⟨b, rfl, hb, c0, f0⟩ := g 0 (by omega)
  obtain ⟨b1, e1, _, c1, f1⟩ := g 1 (by omega)
  obtain ⟨b2, e2, _, c2, f2⟩ := g 2 (by omega)
  obtain ⟨b3, e3, _, c3, f3⟩ := g 3 (by omega)
  obtain ⟨b4, e4, _, c4, f4⟩ := g 4 (by omega)
  injection e1 with e1; injection e1 with e1; subst e1
  injection e2 with e2; injection e2 with e2; subst e2
  injection e3 with e3; injection e3 with e3; subst e3
  injection e4 with e4; injection e4 with e4; subst e4
  exact ⟨b, rfl, hb, ⟨c0, c1, c2, c3, c4⟩, f0, f1, f2, f3, f4⟩
/-- One of them is written. -/
theorem lrow_set {g : Nat} (h : Has w (lrow (.slice (some ⟨g, 0, none⟩) n c) l * R)) {k : Nat} (hk : k < l.length) (x : Ln) :
    Has (((((w.setCell ⟨g, k * 5, none⟩ ((Value.int .i64) x.m.page)).setCell ⟨g, k * 5 + 1, none⟩ ((Value.int .i64) x.m.size)).setCell ⟨g, k * 5 + 2, none⟩ ((Value.int .i64) x.m.frame)).setCell ⟨g, k * 5 + 3, none⟩ ((Value.int .i64) x.m.rights)).setCell ⟨g, k * 5 + 4, none⟩ (Value.bool x.dirty))
      (lrow (.slice (some ⟨g, 0, none⟩) n c) (l.set k x) * R) := by
  obtain rfl := lrow_len h
  have h1 := Has.rowSetCells (e := 100) (size := 5) x.cells (k * 5) h (by rw [ln_len]; omega)
  rw [ln_len] at h1
  have e1 := flat_set (cells := Ln.cells) ln_len hk x
  have e2 : (lcells l).take (k * 5) ++ (x.cells ++ (lcells l).drop (k * 5 + 5)) = lcells (l.set k x) := e1
  rw [e2] at h1
  unfold lrow
  rw [List.length_set]
  exact h1
end
/-- Where the first line is that something holds of. -/
def fidx (p : Ln → Bool) (l : List Ln) : Int := match l.findIdx? p with | some k => (k : Int) | none => -1
theorem fidx_hit {p : Ln → Bool} {l : List Ln} {k : Nat} (hk : k < l.length) (h : p l[k] = true) (ha : ∀ j (hj : j < l.length), j < k → p l[j] = false) : fidx p l = k := by
  unfold fidx
  rw [List.findIdx?_eq_some_iff_getElem.2 ⟨hk, h, fun j hj => by rw [ha j (by omega) hj]; decide⟩]
theorem fidx_miss {p : Ln → Bool} {l : List Ln} (ha : ∀ j (hj : j < l.length), p l[j] = false) : fidx p l = -1 := by
  unfold fidx
  rw [List.findIdx?_eq_none_iff.2 fun x hx => by
    obtain ⟨j, hj, rfl⟩ := List.getElem_of_mem hx
    exact ha j hj]
theorem fidx_cases (p : Ln → Bool) (l : List Ln) : (fidx p l = -1 ∧ ∀ j (hj : j < l.length), p l[j] = false) ∨ ∃ (k : Nat) (h : k < l.length), fidx p l = k ∧ p l[k] = true ∧ ∀ j (hj : j < l.length), j < k → p l[j] = false := by
  cases hf : l.findIdx? p with
  | none =>
    have ha : ∀ j (hj : j < l.length), p l[j] = false := fun j hj => by simpa using List.findIdx?_eq_none_iff.1 hf _ (List.getElem_mem hj)
    exact .inl ⟨fidx_miss ha, ha⟩
  | some k =>
    obtain ⟨hk, h1, h2⟩ := List.findIdx?_eq_some_iff_getElem.1 hf
    have ha : ∀ j (hj : j < l.length), j < k → p l[j] = false := fun j hj hjk => by simpa using h2 j hjk
    exact .inr ⟨k, hk, fidx_hit hk h1 ha, h1, ha⟩
theorem indexFunc_ln (l : List Ln) (p : Ln → Bool) (g : Nat) (cap : Array Value) (A : Option Addr) (n c : Nat) (R : HProp) (w : World) (h : Has w (lrow (.slice A n c) l * R))
    (eg : ∀ args w, (callFunc g args).run Try.prog w = .ok (.enter g args) w)
    (hp : ∀ x ∈ l, ∀ W, Has W R → Calls Try.prog g (#[x.val] ++ cap) W (Pure (Value.bool (p x)) W)) :
    Calls Try.prog 69 #[.slice A n c, .func (.func g) #[] cap] w (Pure ((Value.int .i64) (fidx p l)) w) := by
  obtain rfl := lrow_len h
  obtain ⟨hbig, _⟩ := lrow_small h
  have HP := Lib.hid hp
  clear hp
  go_enter Try.func69, Try.ntmps69
  go_wp2_with fail
  go_loopw [5, 8] (fun _ s8 wr => ∃ k : Nat, k ≤ l.length ∧ s8 = (Value.int .i64) k ∧ Below w.heap.size w wr ∧ Hid (∀ j (hj : j < l.length), j < k → p l[j] = false)) (fun _ s8 _ => l.length - (intOf s8).toNat)
  case atStart => exact ⟨0, Nat.zero_le _, rfl, Below.refl _ _, Lib.hid fun j _ h => absurd h (Nat.not_lt_zero _)⟩
  case round =>
    obtain ⟨k, hk, rfl, BW, HA⟩ := hrel
    by_cases hlt : k < l.length
    · have h' := h.below BW
      obtain ⟨b, rfl, hb, ⟨c0, c1, c2, c3, c4⟩, _⟩ := lrow_at h' hlt
      have hc := HP.out l[k] (List.getElem_mem hlt) wr h'.right
      have hz := Lib.hid (show (l[k] = l[k]) from rfl)
      generalize hx : l[k] = x at c0 c1 c2 c3 c4 hc
      have HX := Lib.hid hx
      clear hx hz h'
      have BW' := Lib.hid BW
      clear BW h
      cases hq : p x with
      | true =>
        rw [hq] at hc
        go_wp2_with (go_at_fn g; refine hc.mono ?_; rintro e w' ⟨rfl, hb'⟩)
        go_ret
        exact ⟨by rw [fidx_hit hlt (by rw [HX.out]; exact hq) HA.out]; rfl, BW'.out.trans (hb'.mono BW'.out.size)⟩
      | false =>
        rw [hq] at hc
        go_wp2_with (go_at_fn g; refine hc.mono ?_; rintro e w' ⟨rfl, hb'⟩)
        go_roundw
        case rel =>
          refine ⟨k + 1, by omega, by go_num, BW'.out.trans (hb'.mono BW'.out.size), Lib.hid fun j hj hjk => ?_⟩
          by_cases e : j = k
          · subst e; rw [HX.out]; exact hq
          · exact HA.out j hj (by omega)
        case measure => simp [intOf]; omega
    · have : k = l.length := by omega
      subst this
      go_wp2_with fail
      go_ret
      exact ⟨by rw [fidx_miss fun j hj => HA.out j hj hj]; rfl, BW⟩
end Go.Proofs.Ytmfheghbgihdmaa
namespace Go.Proofs.Ytmfheghbgihdmaa
open Go.RowKit
set_option maxRecDepth 100000
theorem lzero_v : ∀ w, (zeroValue 100).run Try.prog w = .ok lnZero w := Try.zeroValue100
section
variable {w : World} {R : HProp} {n c : Nat} {l : List Ln}
/-- What a 'clear' of its last elements comes to. -/
theorem lrow_clear {g i : Nat} (h : Has w (lrow (.slice (some ⟨g, 0, none⟩) n c) l * R)) (hi : i < n) : ∀ ty, (Builtin.clear_ #[114] ty #[.slice (some ⟨g, i * 5, none⟩) (n - i) (c - i)]).run Try.prog w = .ok (.tuple #[]) (w.setCells g (i * 5) (Builtin.zeroCells lnZero.cells (n - i)).toList) := by
  intro ty
  have hl := lrow_len h
  subst hl
  have hg : ∀ j, j < (l.length - i) * 5 → (w.cell? ⟨g, i * 5 + j, none⟩).isSome = true ∧ w.frozen? ⟨g, i * 5 + j, none⟩ = false := fun j hj => by
    obtain ⟨b, hb, _, hc, hf⟩ := Has.rowGet (e := 100) (size := 5) h (i := i * 5 + j) (u := (lcells l)[i * 5 + j]'(by rw [lcells_len]; omega)) (List.getElem?_eq_getElem _)
    injection hb with hb
    injection hb with hb
    subst hb
    exact ⟨by rw [hc]; rfl, hf⟩
  exact run_clear_cells w _ _ ty lnZero 5 Try.underlying114 lzero_v rfl (by intro v hv; simp [lnZero, Value.cells] at hv; rcases hv with rfl | rfl <;> rfl) g (i * 5) _ _ (by omega) (by omega) (fun j hj => (hg j hj).1) (fun j hj => (hg j hj).2)
theorem lrow_cut {g i : Nat} (h : Has w (lrow (.slice (some ⟨g, 0, none⟩) n c) l * R)) (hi : i ≤ n) (zs : List Value) : Has (w.setCells g (i * 5) zs) (lrow (.slice (some ⟨g, 0, none⟩) i c) (l.take i) * R) := by
  have hl := lrow_len h
  subst hl
  have h1 := Has.rowCut (e := 100) (size := 5) h hi
  have h2 := Has.rowSpareCells zs (i * 5) h1 (Nat.le_refl _)
  unfold lrow
  rw [List.length_take, Nat.min_eq_left hi]
  rw [show (lcells l).take (i * 5) = lcells (l.take i) from flat_take ln_len l i] at h2
  exact h2
end
theorem Ext.setCells {w0 : World} (b : Nat) : ∀ (vs : List Value) (o : Nat) {w : World}, Ext w0 w → Ext w0 (w.setCells b o vs)
  | [], _, _, h => h
  | _ :: r, o, _, h => Ext.setCells b r (o + 1) (h.set _ _)
theorem filter_next {p : Ln → Bool} {l : List Ln} {j : Nat} (hj : j < l.length) : (l.take (j + 1)).filter p = (l.take j).filter p ++ (if p l[j] then [l[j]] else []) := by
  rw [List.take_succ_eq_append_getElem hj, List.filter_append]
  cases hq : p l[j] <;> simp [hq]
theorem deleteFunc_ln (l : List Ln) (p : Ln → Bool) (g : Nat) (cap : Array Value) (A : Option Addr) (n c : Nat) (R : HProp) (w : World) (h : Has w (lrow (.slice A n c) l * R))
    (eg : ∀ args w, (callFunc g args).run Try.prog w = .ok (.enter g args) w)
    (hp : ∀ x ∈ l, ∀ W, Has W R → Calls Try.prog g (#[x.val] ++ cap) W (Pure (Value.bool (p x)) W)) :
    Calls Try.prog 89 #[.slice A n c, .func (.func g) #[] cap] w
      (Res (.slice A (l.filter fun x => !p x).length c) (lrow (.slice A (l.filter fun x => !p x).length c) (l.filter fun x => !p x) * R) w) := by
  have hI := indexFunc_ln l p g cap A n c R w h eg hp
  obtain rfl := lrow_len h
  obtain ⟨hbig, hnc⟩ := lrow_small h
  have HP := Lib.hid hp
  clear hp
  rcases fidx_cases p l with ⟨e1, hall⟩ | ⟨k0, hk0, e1, ht, hall⟩
  · rw [e1] at hI
    have hf : (l.filter fun x => !p x) = l := List.filter_eq_self.2 fun x hx => by
      obtain ⟨j, hj, rfl⟩ := List.getElem_of_mem hx
      rw [hall j hj]; rfl
    rw [hf]
    clear hall e1 hf
    go_enter Try.func89, Try.ntmps89
    go_wp2_with (refine hI.mono ?_; rintro e w2 ⟨rfl, b2⟩)
    go_ret
    exact ⟨rfl, h.below b2, (Ext.refl w).below b2⟩
  · rw [e1] at hI
    have hne : ((k0 : Int) == -1) = false := beq_eq_false_iff_ne.2 (by omega)
    have hA := h
    obtain ⟨b, rfl, _⟩ := lrow_at hA hk0
    clear hA
    have HK := Lib.hid (show l.take k0 = (l.take (k0 + 1)).filter fun x => !p x by
      rw [filter_next hk0, ht]
      simp only [Bool.not_true, Bool.false_eq_true, if_false, List.append_nil]
      exact (List.filter_eq_self.2 fun x hx => by
        obtain ⟨j, hj, rfl⟩ := List.getElem_of_mem hx
        rw [List.length_take] at hj
        rw [List.getElem_take, hall j (by omega) (by omega)]; rfl).symm)
    clear hall ht e1
    go_enter Try.func89, Try.ntmps89
    go_wp2_with (refine hI.mono ?_; rintro e w2 ⟨rfl, b2⟩)
    have h2 := h.below b2
    have x2 := (Ext.refl w).below b2
    clear h hI
    go_loopw [5, 6, 7] (fun s5 s6 _ wr => ∃ (i j : Nat) (dk : List Ln), s5 = (Value.int .i64) i ∧ s6 = (Value.int .i64) j ∧ i < j ∧ j ≤ l.length ∧ dk.length = l.length ∧ Hid (dk.take i = (l.take j).filter fun x => !p x) ∧ Hid (dk.drop j = l.drop j) ∧ Has wr (lrow (.slice (some ⟨b, 0, none⟩) l.length c) dk * R) ∧ Ext w wr) (fun _ s6 _ _ => l.length - (intOf s6).toNat)
    case atStart => exact ⟨k0, k0 + 1, l, rfl, by go_num, by omega, by omega, rfl, HK, Lib.hid rfl, h2, x2⟩
    case round =>
      clear h2 x2 b2 HK
      obtain ⟨i, j, dk, rfl, rfl, hij, hjl, hdl, HT, HD, hr, hx⟩ := hrel
      by_cases hlt : j < l.length
      · have hj : j < dk.length := by omega
        have hxj : dk[j] = l[j] := by
          have e1 : (dk.drop j)[0]? = (l.drop j)[0]? := by rw [HD.out]
          simp only [List.getElem?_drop, Nat.add_zero] at e1
          rw [List.getElem?_eq_getElem hj, List.getElem?_eq_getElem hlt] at e1
          injection e1
        obtain ⟨b', hb', hb, ⟨c0, c1, c2, c3, c4⟩, _⟩ := lrow_at hr hj
        injection hb' with hb'
        injection hb' with hb'
        subst hb'
        rw [hxj] at c0 c1 c2 c3 c4
        have HX := Lib.hid (show l[j] ∈ l from List.getElem_mem hlt)
        have HN := Lib.hid (filter_next (p := fun x => !p x) hlt)
        have HDN := Lib.hid (show dk.drop (j + 1) = l.drop (j + 1) by
          have := HD.out
          rw [← List.drop_drop (j := j) (i := 1), ← List.drop_drop (j := j) (i := 1), this])
        clear hxj
        generalize l[j] = x at c0 c1 c2 c3 c4 HX HN
        have h3 := hr.new #[(Value.int .i64) x.m.page, (Value.int .i64) x.m.size, (Value.int .i64) x.m.frame, (Value.int .i64) x.m.rights, Value.bool x.dirty] 100
        have x3 := hx.alloc (.cells #[(Value.int .i64) x.m.page, (Value.int .i64) x.m.size, (Value.int .i64) x.m.frame, (Value.int .i64) x.m.rights, Value.bool x.dirty] 100)
        have hc := HP.out x HX.out _ h3.right.right
        clear hr hx
        cases hq : p x with
        | true =>
          rw [hq] at hc
          go_wp2_with (refine hc.mono ?_; rintro e w' ⟨rfl, b4⟩)
          have h4 := (h3.below b4).right
          have x4 := x3.below b4
          go_roundw
          case rel => exact ⟨i, j + 1, dk, rfl, by go_num, by omega, by omega, hdl, Lib.hid (by rw [HT.out, HN.out, hq]; simp), HDN, h4, x4⟩
          case measure => simp [intOf]; omega
        | false =>
          rw [hq] at hc
          have hi : i < dk.length := by omega
          go_wp2_with (refine hc.mono ?_; rintro e w' ⟨rfl, b4⟩; have h4 := h3.below b4; obtain ⟨a0, a1, a2, a3, a4⟩ := h4.cells5; obtain ⟨b', hb', gb, ⟨g0, g1, g2, g3, g4⟩, f0, f1, f2, f3, f4⟩ := lrow_at h4.right hi; injection hb' with hb'; injection hb' with hb'; subst hb')
          have h5 := lrow_set h4.right hi x
          go_roundw
          case rel =>
            refine ⟨i + 1, j + 1, dk.set i x, by go_num, by go_num, by omega, by omega, by rw [List.length_set]; exact hdl, Lib.hid ?_, Lib.hid ?_, h5, ((((((x3.below b4).set _ _).set _ _).set _ _).set _ _).set _ _)⟩
            · rw [HN.out, hq, ← HT.out, List.take_succ_eq_append_getElem (by rw [List.length_set]; exact hi), List.getElem_set_self, List.take_set_of_le (Nat.le_refl i)]
              simp
            · rw [List.drop_set_of_lt (by omega), HDN.out]
          case measure => simp [intOf]; omega
      · have hje : j = l.length := by omega
        subst hje
        obtain ⟨zs, hcl⟩ : ∃ zs, ∀ ty, (Builtin.clear_ #[114] ty #[.slice (some ⟨b, i * 5, none⟩) (l.length - i) (c - i)]).run Try.prog wr = .ok (.tuple #[]) (wr.setCells b (i * 5) zs) := ⟨_, lrow_clear hr hij⟩
        have hci : ¬ l.length ≤ i := by omega
        have hfin := lrow_cut hr (Nat.le_of_lt hij) zs
        have hf : dk.take i = l.filter fun x => !p x := by rw [HT.out, List.take_length]
        have hfl : (l.filter fun x => !p x).length = i := by rw [← hf, List.length_take]; omega
        have hF := Lib.hid hf
        have hFL := Lib.hid hfl
        clear hf hfl hr
        go_wp2_with fail
        go_ret
        rw [hFL.out, ← hF.out]
        exact ⟨rfl, hfin, Ext.setCells _ _ _ hx⟩
end Go.Proofs.Ytmfheghbgihdmaa
namespace Go.Proofs.Ytmfheghbgihdmaa
open Go.RowKit
set_option maxRecDepth 100000
theorem info_ln : (Try.prog.info? 100).map (fun i => (i.zero, i.size, i.bytes)) = some (some lnZero, 5, 40) := by kernel_rfl
theorem lrow_one {l : List Ln} : ∀ u ∈ lcells l, u.oneCell' = true := by
  intro u hu
  obtain ⟨x, _, hx⟩ := List.mem_flatMap.1 hu
  simp [Ln.cells] at hx
  rcases hx with rfl | rfl | rfl | rfl | rfl <;> rfl
theorem lrow_news {w : World} {R : HProp} {g n c : Nat} {l : List Ln} (h : Has w (lrow (.slice (some ⟨g, 0, none⟩) n c) l * R)) (k : Nat) :
    ∀ j u, ((lcells l).drop (k * 5))[j]? = some u → w.cell? ⟨g, k * 5 + j, none⟩ = some u := by
  intro j u hu
  rw [List.getElem?_drop] at hu
  obtain rfl := lrow_len h
  obtain ⟨b, hb, _, hc, _⟩ := Has.rowGet (e := 100) (size := 5) h hu
  injection hb with hb
  injection hb with hb
  subst hb
  exact hc
/-- Delete, of elements that are there. -/
theorem delete_ln (l : List Ln) (i j g n c : Nat) (R : HProp) (w : World) (hij : i < j) (hj : j ≤ n) (h : Has w (lrow (.slice (some ⟨g, 0, none⟩) n c) l * R)) :
    Calls Try.prog 51 #[.slice (some ⟨g, 0, none⟩) n c, .int .i64 i, .int .i64 j] w
      (Res (.slice (some ⟨g, 0, none⟩) (i + (n - j)) c) (lrow (.slice (some ⟨g, 0, none⟩) (i + (n - j)) c) (l.take i ++ l.drop j) * R) w) := by
  obtain rfl := lrow_len h
  obtain ⟨hbig, hnc⟩ := lrow_small h
  obtain ⟨i0, hi0, hz0, hz1, hz2⟩ := info_parts info_ln
  obtain ⟨A, hA, hnews⟩ : ∃ A : Addr, (if c = j then some (⟨g, 0, none⟩ : Addr) else some ⟨g, j * 5, none⟩) = some A ∧ Hid (∀ t u, ((lcells l).drop (j * 5))[t]? = some u → w.drew.cell? (A.add t) = some u) := by
    by_cases hc : c = j
    · refine ⟨⟨g, 0, none⟩, by simp [hc], fun t u hu => ?_⟩
      rw [List.drop_eq_nil_of_le (by rw [lcells_len]; omega)] at hu
      simp at hu
    · refine ⟨⟨g, j * 5, none⟩, by simp [hc], fun t u hu => ?_⟩
      rw [Addr.add_lit]
      exact lrow_news h j t u hu
  have s1 : Hid (((lcells l).drop (j * 5)).length = (l.length - j) * 5) := by rw [List.length_drop, lcells_len]; show _ = _; omega
  have s2 : Hid (∀ u ∈ (lcells l).drop (j * 5), u.oneCell' = true) := fun u hu => lrow_one u (List.mem_of_mem_drop hu)
  have s3 : Hid (∀ t, t < ((lcells l).drop (j * 5)).length → (w.drew.cell? ⟨g, 0 + i * 5 + t, none⟩).isSome = true ∧ w.drew.frozen? ⟨g, 0 + i * 5 + t, none⟩ = false) := by
    intro t ht
    rw [s1.out] at ht
    obtain ⟨b, hb, _, hc, hf⟩ := Has.rowGet (e := 100) (size := 5) h (i := i * 5 + t) (u := (lcells l)[i * 5 + t]'(by rw [lcells_len]; omega)) (List.getElem?_eq_getElem _)
    injection hb with hb
    injection hb with hb
    subst hb
    rw [Nat.zero_add]
    exact ⟨by show (w.cell? _).isSome = true; rw [hc]; rfl, hf⟩
  have hic : i ≤ c := by omega
  have hne : ((i : Int) == (j : Int)) = false := beq_eq_false_iff_ne.2 (by omega)
  go_enter Try.func51, Try.ntmps51
  go_wp2_with fail
  go_region_law (refine step_append_room rfl (.tmp 22) (.tmp 25) 114 rfl 100 i0 5 Try.underlying114 hi0 hz1 g 0 i c (by simp [Act.eval, Act.put]) A (l.length - j) (c - j) ((lcells l).drop (j * 5)) (by simp [Act.eval, Act.put]) s1.out hnews.out s2.out (by omega) s3.out ?_)
  have hn' : i + (l.length - j) < l.length := by omega
  have h1 := Has.rowSetCells (e := 100) (size := 5) ((lcells l).drop (j * 5)) (i * 5) h.drew (by rw [s1.out]; omega)
  have hz : (l.take i ++ l.drop j).length = i + (l.length - j) := by simp; omega
  obtain ⟨zs, hcl⟩ : ∃ zs, ∀ ty, (Builtin.clear_ #[114] ty #[.slice (some ⟨g, (i + (l.length - j)) * 5, none⟩) (l.length - (i + (l.length - j))) (c - (i + (l.length - j)))]).run Try.prog (w.drew.setCells g (i * 5) ((lcells l).drop (j * 5))) = .ok (.tuple #[]) ((w.drew.setCells g (i * 5) ((lcells l).drop (j * 5))).setCells g ((i + (l.length - j)) * 5) zs) := by
    refine ⟨_, fun ty => run_clear_cells _ _ _ ty lnZero 5 Try.underlying114 lzero_v rfl (by intro v hv; simp [lnZero, Value.cells] at hv; rcases hv with rfl | rfl <;> rfl) g _ _ _ (by omega) (by omega) (fun t ht => ?_) (fun t ht => ?_)⟩
    all_goals
      obtain ⟨b, hb, _, hc, hf⟩ := Has.rowGet (e := 100) (size := 5) h1 (i := (i + (l.length - j)) * 5 + t) (List.getElem?_eq_getElem (by rw [h1.rowLens.1]; omega))
      injection hb with hb
      injection hb with hb
      subst hb
    · rw [hc]; rfl
    · exact hf
  have hfin : Has ((w.drew.setCells g (i * 5) ((lcells l).drop (j * 5))).setCells g ((i + (l.length - j)) * 5) zs) (lrow (.slice (some ⟨g, 0, none⟩) (i + (l.length - j)) c) (l.take i ++ l.drop j) * R) := by
    have := Has.rowDelete (e := 100) (size := 5) (i := i) (j := j) h.drew (by omega) hj zs
    unfold lrow
    rw [hz, lcells_append]
    have e1 : (lcells l).take (i * 5) = lcells (l.take i) := flat_take ln_len l i
    have e2 : (lcells l).drop (j * 5) = lcells (l.drop j) := flat_drop ln_len l j
    rw [← e1, ← e2]
    exact this
  have hx : Ext w ((w.drew.setCells g (i * 5) ((lcells l).drop (j * 5))).setCells g ((i + (l.length - j)) * 5) zs) := Ext.setCells _ _ _ (Ext.setCells _ _ _ (Ext.refl w).drew)
  clear h1 s1 s2 s3 hnews hA h hz
  generalize (w.drew.setCells g (i * 5) ((lcells l).drop (j * 5))) = w1 at *
  generalize i + (l.length - j) = n' at *
  have hcn : ¬ c ≤ n' := by omega
  have hnn : (n' : Int) ≤ (l.length : Int) := by omega
  go_wp2_with fail
  go_ret
  exact ⟨rfl, hfin, hx⟩
/-- What stood in a world stands beside what is new. -/
theorem Has.onto {w w' : World} {P Q : HProp} (h : Has w P) (h' : Has w' (Q * old w w.heap.size)) : Has w' (Q * P) := by
  obtain ⟨x, s, px⟩ := h
  obtain ⟨_, s', h1, h2, d, rfl, q, rfl⟩ := h'
  have sub : ∀ b o, x b = some o → (fun b => if b < w.heap.size then w.heap[b]? else none) b = some o := fun b o e => by
    have h0 : w.heap[b]? = some o := s b o e
    have hlt : b < w.heap.size := (Array.getElem?_eq_some_iff.1 h0).1
    show (if b < w.heap.size then w.heap[b]? else none) = some o
    rw [if_pos hlt]
    exact h0
  refine ⟨Hpm.union h1 x, ?_, h1, x, ?_, rfl, q, px⟩
  · refine Hpm.sub_union (Hpm.sub_union_left s') fun b o e => ?_
    exact Hpm.sub_union_right d s' b o (sub b o e)
  · intro b
    rcases d b with e | e
    · exact .inl e
    · right
      cases hx : x b with
      | none => rfl
      | some o => rw [sub b o hx] at e; cases e
end Go.Proofs.Ytmfheghbgihdmaa
namespace Go.Proofs.Ytmfheghbgihdmaa
open Go.RowKit
set_option maxRecDepth 100000
theorem load_line {w : World} {R : HProp} {b : Nat} {v0 v1 v2 v3 v4 : Value} (h : Has w (blk b #[v0, v1, v2, v3, v4] 100 * R)) : (loadVar 100 ⟨b, 0, none⟩).run Try.prog w = .ok (.agg #[v0, v1, v2, v3, v4]) w :=
  run_loadVar_row w b 100 100 _ _ _ h.heap Try.underlying100 rfl (by kernel_rfl)
theorem Has.set5 {w : World} {R : HProp} {b : Nat} {v0 v1 v2 v3 v4 : Value} {t : TypeId} (h : Has w (blk b #[v0, v1, v2, v3, v4] t * R)) (u0 u1 u2 u3 u4 : Value) :
    Has (((((w.setCell ⟨b, 0, none⟩ u0).setCell ⟨b, 1, none⟩ u1).setCell ⟨b, 2, none⟩ u2).setCell ⟨b, 3, none⟩ u3).setCell ⟨b, 4, none⟩ u4) (blk b #[u0, u1, u2, u3, u4] t * R) :=
  ((((h.set 0 u0).set 1 u1).set 2 u2).set 3 u3).set 4 u4
theorem Has.frees5 {w : World} {R : HProp} {b : Nat} {v0 v1 v2 v3 v4 : Value} {t : TypeId} (h : Has w (blk b #[v0, v1, v2, v3, v4] t * R)) :
    w.frozen? ⟨b, 0, none⟩ = false ∧ w.frozen? ⟨b, 1, none⟩ = false ∧ w.frozen? ⟨b, 2, none⟩ = false ∧ w.frozen? ⟨b, 3, none⟩ = false ∧ w.frozen? ⟨b, 4, none⟩ = false :=
  ⟨h.free 0, h.free 1, h.free 2, h.free 3, h.free 4⟩
/-- What a core keeps, at block p. -/
def tlbIn (p : Nat) (A : Option Addr) (c : Nat) (l : List Ln) (R : HProp) : HProp := blk p #[.slice A l.length c] 116 * (lrow (.slice A l.length c) l * R)
def tlbAt (p : Nat) (l : List Ln) : HProp := ex fun A => ex fun c => tlbIn p A c l (lift True)
theorem star_lift (R : HProp) : lift True * R = R := by
  funext h
  apply propext
  constructor
  · rintro ⟨h1, h2, d, rfl, ⟨_, rfl⟩, q⟩
    have : Hpm.union Hpm.emp h2 = h2 := by funext b; simp [Hpm.union, Hpm.emp]
    rw [this]
    exact q
  · intro q
    exact ⟨Hpm.emp, h, fun b => .inl rfl, by funext b; simp [Hpm.union, Hpm.emp], ⟨trivial, rfl⟩, q⟩
theorem tlbAt_open {p : Nat} {l : List Ln} {R : HProp} {w : World} (h : Has w (tlbAt p l * R)) : ∃ A c, Has w (tlbIn p A c l R) := by
  unfold tlbAt at h
  obtain ⟨g, h⟩ := has_ex_star.1 h
  obtain ⟨vf, h⟩ := has_ex_star.1 h
  refine ⟨g, vf, ?_⟩
  unfold tlbIn at h ⊢
  simpa only [star_assoc, star_lift] using h
theorem tlbAt_shut {p c : Nat} {A : Option Addr} {l : List Ln} {R : HProp} {w : World} (h : Has w (tlbIn p A c l R)) : Has w (tlbAt p l * R) := by
  unfold tlbAt
  refine has_ex_star.2 ⟨A, has_ex_star.2 ⟨c, ?_⟩⟩
  unfold tlbIn at h ⊢
  simpa only [star_assoc, star_lift] using h
/-- Pages of lines are ints. -/
def LOk (l : List Ln) : Prop := ∀ x ∈ l, i64 x.m.page
theorem newT (R : HProp) (w : World) (h : Has w R) : Calls Try.prog 34 #[] w fun e w' => ∃ p, Res (.pointer (some ⟨p, 0, none⟩)) (tlbAt p [] * R) w e w' := by
  have h1 := h.new #[.slice none 0 0] 116
  have h2 : Has (w.alloc (.cells #[.slice none 0 0] 116)) (tlbIn w.heap.size none 0 [] R) := (Has.rowNil h1).p2
  go_enter Try.func34, Try.ntmps34
  go_wp2
  go_ret
  exact ⟨_, rfl, tlbAt_shut h2, (Ext.refl w).alloc _⟩
theorem find_closure (x : Ln) (k : Int) (X : Nat) (R : HProp) (w : World) (hx : i64 x.m.page) (hk : i64 k) (h : Has w (blk X #[(Value.int .i64) k] 3 * R)) :
    Calls Try.prog 70 #[x.val, .pointer (some ⟨X, 0, none⟩)] w (Pure (Value.bool (over x.m k)) w) := by
  have h1 := h.new #[(Value.int .i64) x.m.page, (Value.int .i64) x.m.size, (Value.int .i64) x.m.frame, (Value.int .i64) x.m.rights, Value.bool x.dirty] 100
  have bl := (Below.refl w.heap.size w).alloc (Nat.le_refl _) (.cells #[(Value.int .i64) x.m.page, (Value.int .i64) x.m.size, (Value.int .i64) x.m.frame, (Value.int .i64) x.m.rights, Value.bool x.dirty] 100)
  have c0 := h1.right.cell 0
  have hX := h1.right.lt
  obtain ⟨d0, d1, d2, d3, d4⟩ := h1.cells5
  go_enter Try.func70, Try.ntmps70
  go_wp2_with (refine (over_page x.m k _ hx hk).mono ?_; rintro e w2 ⟨rfl, b2⟩)
  go_ret
  exact ⟨rfl, bl.trans (b2.mono bl.size)⟩
theorem drop_closure (x : Ln) (m : Mp) (X : Nat) (R : HProp) (w : World) (hx : i64 x.m.page) (hm : i64 m.page) (h : Has w (blk X #[(Value.int .i64) m.page, (Value.int .i64) m.size, (Value.int .i64) m.frame, (Value.int .i64) m.rights] 31 * R)) :
    Calls Try.prog 90 #[x.val, .pointer (some ⟨X, 0, none⟩)] w (Pure (Value.bool (meet x.m m)) w) := by
  have h1 := h.new #[(Value.int .i64) x.m.page, (Value.int .i64) x.m.size, (Value.int .i64) x.m.frame, (Value.int .i64) x.m.rights, Value.bool x.dirty] 100
  have bl := (Below.refl w.heap.size w).alloc (Nat.le_refl _) (.cells #[(Value.int .i64) x.m.page, (Value.int .i64) x.m.size, (Value.int .i64) x.m.frame, (Value.int .i64) x.m.rights, Value.bool x.dirty] 100)
  obtain ⟨c0, c1, c2, c3⟩ := h1.right.cells4
  have hX := h1.right.lt
  obtain ⟨d0, d1, d2, d3, d4⟩ := h1.cells5
  go_enter Try.func90, Try.ntmps90
  go_wp2_with (refine (meet_any x.m m _ hx hm).mono ?_; rintro e w2 ⟨rfl, b2⟩)
  go_ret
  exact ⟨rfl, bl.trans (b2.mono bl.size)⟩
theorem evict_no (p : Nat) (R : HProp) (w : World) (h : Has w (tlbAt p [] * R)) :
    Calls Try.prog 27 #[.pointer (some ⟨p, 0, none⟩)] w (Res (Value.bool false) (tlbAt p [] * R) w) := by
  obtain ⟨A, c, h⟩ := tlbAt_open h
  have c0 : w.cell? ⟨p, 0, none⟩ = some (.slice A 0 c) := h.cell 0
  have hp := h.lt
  go_enter Try.func27, Try.ntmps27
  go_wp2_with fail
  go_ret
  exact ⟨rfl, tlbAt_shut h, Ext.refl _⟩
theorem evict_yes (p : Nat) (l : List Ln) (R : HProp) (w : World) (hl : 0 < l.length) (h : Has w (tlbAt p l * R)) :
    Calls Try.prog 27 #[.pointer (some ⟨p, 0, none⟩)] w (Res (Value.bool true) (tlbAt p l.tail * R) w) := by
  obtain ⟨A, c, h⟩ := tlbAt_open h
  obtain ⟨g, rfl, _⟩ := lrow_at (k := 0) h.right hl
  have hC := delete_ln l 0 1 g l.length c _ w (by omega) (by omega) h.p2
  have hne : ((l.length : Int) == 0) = false := beq_eq_false_iff_ne.2 (by omega)
  have e1 : l.take 0 ++ l.drop 1 = l.tail := by simp
  have e2 : 0 + (l.length - 1) = l.tail.length := by simp
  rw [e1, e2] at hC
  clear e1 e2
  have c0 : w.cell? ⟨p, 0, none⟩ = some (.slice (some ⟨g, 0, none⟩) l.length c) := h.cell 0
  have hp := h.lt
  have hbig := (lrow_small h.right).1
  clear h
  generalize l.tail = l' at *
  go_enter Try.func27, Try.ntmps27
  go_wp2_with (refine hC.mono ?_; rintro e w2 ⟨rfl, h2, x2⟩; have d0 := h2.right.lt; have d1 := h2.right.free 0; have d2 := h2.right.cell 0)
  go_ret
  exact ⟨rfl, tlbAt_shut (h2.p2.set 0 _), x2.set _ _⟩
theorem dropT (p : Nat) (l : List Ln) (m : Mp) (R : HProp) (w : World) (hok : LOk l) (hm : i64 m.page) (h : Has w (tlbAt p l * R)) :
    Calls Try.prog 78 #[.pointer (some ⟨p, 0, none⟩), .agg #[(Value.int .i64) m.page, (Value.int .i64) m.size, (Value.int .i64) m.frame, (Value.int .i64) m.rights]] w (Res ((Value.int .i64) ((l.length : Int) - (Tl.drop l m).length)) (tlbAt p (Tl.drop l m) * R) w) := by
  have hmf : ∀ (fn : Fn) (first cap : Array Value) (w : World), (Instr.makeFunc fn first cap).run Try.prog w = .ok (.func fn first cap) w := fun _ _ _ _ => rfl
  obtain ⟨A, c, h⟩ := tlbAt_open h
  have h1 := h.new #[(Value.int .i64) m.page, (Value.int .i64) m.size, (Value.int .i64) m.frame, (Value.int .i64) m.rights] 31
  have x1 := (Ext.refl w).alloc (.cells #[(Value.int .i64) m.page, (Value.int .i64) m.size, (Value.int .i64) m.frame, (Value.int .i64) m.rights] 31)
  have hbig := (lrow_small h.right).1
  have c0 := h1.right.cell 0
  have hp := h1.right.lt
  have h2 : Has (w.alloc (.cells #[(Value.int .i64) m.page, (Value.int .i64) m.size, (Value.int .i64) m.frame, (Value.int .i64) m.rights] 31)) (lrow (.slice A l.length c) l * (blk w.heap.size #[(Value.int .i64) m.page, (Value.int .i64) m.size, (Value.int .i64) m.frame, (Value.int .i64) m.rights] 31 * (blk p #[.slice A l.length c] 116 * R))) := h1.eq (by unfold tlbIn; (simp only [star_assoc, star_left_comm, star_comm]))
  have hC := deleteFunc_ln l (fun x => meet x.m m) 90 #[.pointer (some ⟨w.heap.size, 0, none⟩)] A l.length c _ _ h2 (enters_of Try.func90 (by kernel_rfl) rfl) (fun x hx W hW => drop_closure x m _ _ W (hok x hx) hm hW)
  have hle : (Tl.drop l m).length ≤ l.length := List.length_filter_le _ _
  have hC2 : Calls Try.prog 89 #[.slice A l.length c, .func (.func 90) #[] #[.pointer (some ⟨w.heap.size, 0, none⟩)]] (w.alloc (.cells #[(Value.int .i64) m.page, (Value.int .i64) m.size, (Value.int .i64) m.frame, (Value.int .i64) m.rights] 31))
      (Res (.slice A (Tl.drop l m).length c) (lrow (.slice A (Tl.drop l m).length c) (Tl.drop l m) * (blk w.heap.size #[(Value.int .i64) m.page, (Value.int .i64) m.size, (Value.int .i64) m.frame, (Value.int .i64) m.rights] 31 * (blk p #[.slice A l.length c] 116 * R))) (w.alloc (.cells #[(Value.int .i64) m.page, (Value.int .i64) m.size, (Value.int .i64) m.frame, (Value.int .i64) m.rights] 31))) := hC
  clear hC h2 h1 h
  generalize Tl.drop l m = l' at *
  go_enter Try.func78, Try.ntmps78
  go_wp2_with (refine hC2.mono ?_; rintro e w2 ⟨rfl, h2, x2⟩; have d0 := h2.right.right.lt; have d1 := h2.right.right.free 0; have d2 := h2.right.right.cell 0)
  have h3 : Has w2 (blk p #[.slice A l.length c] 116 * (lrow (.slice A l'.length c) l' * R)) := h2.p2.right.p2
  go_ret
  exact ⟨by go_num, tlbAt_shut (h3.set 0 _), (x1.trans x2).set _ _⟩
def lnOf : Option Ln → Value
  | none => lnZero
  | some x => x.val
theorem findT (p : Nat) (l : List Ln) (k : Int) (R : HProp) (w : World) (hok : LOk l) (hk : i64 k) (h : Has w (tlbAt p l * R)) :
    Calls Try.prog 41 #[.pointer (some ⟨p, 0, none⟩), .int .i64 k] w (Pure (.tuple #[lnOf (Tl.find l k), Value.bool (Tl.find l k).isSome]) w) := by
  have hmf : ∀ (fn : Fn) (first cap : Array Value) (w : World), (Instr.makeFunc fn first cap).run Try.prog w = .ok (.func fn first cap) w := fun _ _ _ _ => rfl
  obtain ⟨A, c, h⟩ := tlbAt_open h
  have h1 := h.new #[(Value.int .i64) k] 3
  have h2 := h1.new #[(Value.int .i64) 0, (Value.int .i64) 0, (Value.int .i64) 0, (Value.int .i64) 0, Value.bool false] 100
  have H2 := ((has_old w).new #[(Value.int .i64) k] 3).new #[(Value.int .i64) 0, (Value.int .i64) 0, (Value.int .i64) 0, (Value.int .i64) 0, Value.bool false] 100
  have x2 := ((Ext.refl w).alloc (.cells #[(Value.int .i64) k] 3)).alloc (.cells #[(Value.int .i64) 0, (Value.int .i64) 0, (Value.int .i64) 0, (Value.int .i64) 0, Value.bool false] 100)
  simp only [World.size_alloc] at h2 H2
  have hbig := (lrow_small h.right).1
  have hL : Has ((w.alloc (.cells #[(Value.int .i64) k] 3)).alloc (.cells #[(Value.int .i64) 0, (Value.int .i64) 0, (Value.int .i64) 0, (Value.int .i64) 0, Value.bool false] 100)) (lrow (.slice A l.length c) l * (blk w.heap.size #[(Value.int .i64) k] 3 * (blk (w.heap.size + 1) #[(Value.int .i64) 0, (Value.int .i64) 0, (Value.int .i64) 0, (Value.int .i64) 0, Value.bool false] 100 * (blk p #[.slice A l.length c] 116 * R)))) := h2.eq (by unfold tlbIn; (simp only [star_assoc, star_left_comm, star_comm]))
  have hC := indexFunc_ln l (fun x => over x.m k) 70 #[.pointer (some ⟨w.heap.size, 0, none⟩)] A l.length c _ _ hL (enters_of Try.func70 (by kernel_rfl) rfl) (fun x hx W hW => find_closure x k _ _ W (hok x hx) hk hW)
  have c0 := h2.right.right.cell 0
  have hp := h2.right.right.lt
  have he : fidx (fun x => over x.m k) l = Tl.idx l k := rfl
  rw [he] at hC
  clear he h h1 h2
  rcases Tl.idx_find l k with ⟨e1, e2⟩ | ⟨j, hj, e1, e2, _⟩
  · rw [e1]
    rw [e2] at hC
    clear e1 e2
    go_enter Try.func41, Try.ntmps41
    go_wp2_with (refine hC.mono ?_; rintro e w2 ⟨rfl, b2⟩; have H3 := H2.below b2; have x3 := x2.below b2; obtain ⟨d0, d1, d2, d3, d4⟩ := H3.cells5; obtain ⟨f0, f1, f2, f3, f4⟩ := H3.frees5; have fl := H3.lt)
    refine ret_via (fun wz => Has wz (blk (w.heap.size + 1) #[(Value.int .i64) 0, (Value.int .i64) 0, (Value.int .i64) 0, (Value.int .i64) 0, Value.bool false] 100 * (blk w.heap.size #[(Value.int .i64) k] 3 * old w w.heap.size)) ∧ Ext w wz) ⟨H3.set5 _ _ _ _ _, by (repeat (first | with_reducible assumption | with_reducible exact Ext.refl _ | with_reducible refine Ext.set ?_ _ _ | with_reducible refine Ext.alloc ?_ _ | with_reducible refine Ext.drew ?_ | with_reducible refine Ext.drewN ?_ _ | assumption | exact Ext.refl _ | refine Ext.alloc ?_ _ | refine Ext.set ?_ _ _ | refine Ext.drew ?_ | refine Ext.drewN ?_ _ | refine Ext.below ?_ (by assumption) | refine Ext.trans ?_ (by assumption)))⟩ ?_
    rintro wz ⟨hz, xz⟩
    exact bodyPost_ret (results_ct Try.results41 rfl rfl (load_line hz)) rfl ⟨rfl, below_of1 hz.right.right xz⟩
  · rw [e2]
    rw [e1] at hC
    clear e1 e2
    go_enter Try.func41, Try.ntmps41
    go_wp2_with (refine hC.mono ?_; rintro e w2 ⟨rfl, b2⟩; have H3 := H2.below b2; have x3 := x2.below b2; obtain ⟨d0, d1, d2, d3, d4⟩ := H3.cells5; obtain ⟨f0, f1, f2, f3, f4⟩ := H3.frees5; have fl := H3.lt; have k0 := (hL.below b2).right.right.right.cell 0; have kp := (hL.below b2).right.right.right.lt; obtain ⟨g, rfl, gb, ⟨g0, g1, g2, g3, g4⟩, _⟩ := lrow_at (hL.below b2) hj)
    generalize l[j] = x at *
    refine ret_via (fun wz => Has wz (blk (w.heap.size + 1) #[(Value.int .i64) x.m.page, (Value.int .i64) x.m.size, (Value.int .i64) x.m.frame, (Value.int .i64) x.m.rights, Value.bool x.dirty] 100 * (blk w.heap.size #[(Value.int .i64) k] 3 * old w w.heap.size)) ∧ Ext w wz) ⟨H3.set5 _ _ _ _ _, by (repeat (first | with_reducible assumption | with_reducible exact Ext.refl _ | with_reducible refine Ext.set ?_ _ _ | with_reducible refine Ext.alloc ?_ _ | with_reducible refine Ext.drew ?_ | with_reducible refine Ext.drewN ?_ _ | assumption | exact Ext.refl _ | refine Ext.alloc ?_ _ | refine Ext.set ?_ _ _ | refine Ext.drew ?_ | refine Ext.drewN ?_ _ | refine Ext.below ?_ (by assumption) | refine Ext.trans ?_ (by assumption)))⟩ ?_
    rintro wz ⟨hz, xz⟩
    exact bodyPost_ret (results_ct Try.results41 rfl rfl (load_line hz)) rfl ⟨rfl, below_of1 hz.right.right xz⟩
end Go.Proofs.Ytmfheghbgihdmaa
namespace Go.Proofs.Ytmfheghbgihdmaa
open Go.RowKit
set_option maxRecDepth 100000
theorem oneCells (x : Ln) : ∀ u ∈ x.cells, u.oneCell' = true := by
  intro u hx
  simp [Ln.cells] at hx
  rcases hx with rfl | rfl | rfl | rfl | rfl <;> rfl
theorem put_shut {p c X : Nat} {A : Option Addr} {l : List Ln} {x : Ln} {cs : Array Value} {t : TypeId} {R : HProp} {w : World} (h : Has w (blk p #[.slice A (l.length + 1) c] 116 * (row 100 5 (.slice A (l.length + 1) c) (l.length + 1) (lcells l ++ x.cells) * (blk X cs t * R)))) :
    Has w (tlbAt p (l ++ [x]) * R) := by
  have h1 := h.drop3
  refine tlbAt_shut (A := A) (c := c) ?_
  unfold tlbIn lrow
  rw [show (l ++ [x]).length = l.length + 1 by simp, lcells_append, show lcells [x] = x.cells by simp [lcells]]
  exact h1
theorem put_no (p : Nat) (l : List Ln) (x : Ln) (R : HProp) (w : World) (hc : check x.m ≠ 0) (h : Has w (tlbAt p l * R)) :
    Calls Try.prog 46 #[.pointer (some ⟨p, 0, none⟩), .agg #[(Value.int .i64) x.m.page, (Value.int .i64) x.m.size, (Value.int .i64) x.m.frame, (Value.int .i64) x.m.rights, Value.bool x.dirty]] w (Res (Value.bool false) (tlbAt p l * R) w) := by
  have h1 := h.new #[(Value.int .i64) x.m.page, (Value.int .i64) x.m.size, (Value.int .i64) x.m.frame, (Value.int .i64) x.m.rights, Value.bool x.dirty] 100
  have x1 := (Ext.refl w).alloc (.cells #[(Value.int .i64) x.m.page, (Value.int .i64) x.m.size, (Value.int .i64) x.m.frame, (Value.int .i64) x.m.rights, Value.bool x.dirty] 100)
  obtain ⟨d0, d1, d2, d3, d4⟩ := h1.cells5
  have hn : (check x.m != 0) = true := by simpa using hc
  have HC := Lib.hid (check_any x.m)
  generalize check x.m = k at *
  go_enter Try.func46, Try.ntmps46
  go_wp2_with (refine (HC.out _).mono ?_; rintro e w2 ⟨rfl, b2⟩)
  go_ret
  exact ⟨rfl, h1.right.below b2, x1.below b2⟩
theorem put_yes (p : Nat) (l : List Ln) (x : Ln) (R : HProp) (w : World) (hok : LOk l) (hx : i64 x.m.page) (hl : l.length ≤ 1000) (hc : check x.m = 0) (h : Has w (tlbAt p l * R)) :
    Calls Try.prog 46 #[.pointer (some ⟨p, 0, none⟩), .agg #[(Value.int .i64) x.m.page, (Value.int .i64) x.m.size, (Value.int .i64) x.m.frame, (Value.int .i64) x.m.rights, Value.bool x.dirty]] w (Res (Value.bool true) (tlbAt p (Tl.room (Tl.drop l x.m) ++ [x]) * R) w) := by
  have h1 := h.new #[(Value.int .i64) x.m.page, (Value.int .i64) x.m.size, (Value.int .i64) x.m.frame, (Value.int .i64) x.m.rights, Value.bool x.dirty] 100
  have x1 := (Ext.refl w).alloc (.cells #[(Value.int .i64) x.m.page, (Value.int .i64) x.m.size, (Value.int .i64) x.m.frame, (Value.int .i64) x.m.rights, Value.bool x.dirty] 100)
  obtain ⟨d0, d1, d2, d3, d4⟩ := h1.cells5
  have HC := Lib.hid (check_any x.m)
  rw [hc] at HC
  have HD := Lib.hid (fun R w h => dropT p l x.m R w hok hx h)
  have hle : (Tl.drop l x.m).length ≤ l.length := List.length_filter_le _ _
  clear hc
  generalize Tl.drop l x.m = l1 at *
  by_cases h6 : l1.length = 6
  · have hr : Tl.room l1 = l1.tail := by unfold Tl.room; rw [if_pos h6]
    rw [hr]
    go_enter Try.func46, Try.ntmps46
    go_wp2_with fail
    refine (HC.out _).mono ?_; rintro e w2 ⟨rfl, b2⟩
    have h2 := h1.below b2
    have x2 := x1.below b2
    clear d0 d1 d2 d3 d4
    obtain ⟨d0, d1, d2, d3, d4⟩ := h2.cells5
    go_wp2_with fail
    refine (HD.out _ _ h2.p2).mono ?_; rintro e w3 ⟨rfl, h3, x3⟩
    have x3 := x2.trans x3
    obtain ⟨A, c, h3o⟩ := tlbAt_open h3
    have c0 : w3.cell? ⟨p, 0, none⟩ = some (.slice A l1.length c) := h3o.cell 0
    rw [h6] at c0
    have cp := h3o.lt
    clear d0 d1 d2 d3 d4 h1 h2 x1 x2 h HC HD
    go_wp2_with fail
    refine (evict_yes p l1 _ _ (by omega) h3).mono ?_; rintro e wz ⟨rfl, h4, x4⟩
    have hl' : l1.tail.length ≤ 1000 := by simp [h6]
    generalize l1.tail = l2 at *
    have x4 := x3.trans x4
    obtain ⟨A, c, h4⟩ := tlbAt_open h4
    clear c0 cp h3o h3 hle h6 hr x3
    go_wp2_with fail
    have hsm := (lrow_small h4.right).1
    have c0 := h4.cell 0
    have cp := h4.lt
    have cf := h4.free 0
    obtain ⟨d0, d1, d2, d3, d4⟩ := h4.right.right.cells5
    have dl := h4.right.right.lt
    have hrow := (h4.drew.p2).alloc (.cells #[(Value.int .i64) x.m.page, (Value.int .i64) x.m.size, (Value.int .i64) x.m.frame, (Value.int .i64) x.m.rights, Value.bool x.dirty] 100)
    go_region_law (refine step_append_has rfl (.tmp 25) (.tmp 27) 114 rfl Try.underlying114 elemLn _ _ _ (by simp [Act.eval]) hrow ⟨wz.heap.size, 0, none⟩ 1 1 x.cells (by simp [Act.eval]) rfl (news_many wz.drew x.cells 100) (oneCells x) (by unfold maxLen; omega) (by omega) ?_; intro A' c' w5 h5 x5; have g0 := h5.right.lt; have g1 := h5.right.free 0; have g2 := h5.right.cell 0)
    all_goals
      go_wp2_with fail
      go_ret
      exact ⟨rfl, put_shut (h5.p2.set 0 _), ((x4.drew.alloc _).trans x5).set _ _⟩
  · have hr : Tl.room l1 = l1 := by unfold Tl.room; rw [if_neg h6]
    rw [hr]
    have h6' : ((l1.length : Int) == 6) = false := beq_eq_false_iff_ne.2 (by omega)
    clear hr h6
    go_enter Try.func46, Try.ntmps46
    go_wp2_with fail
    refine (HC.out _).mono ?_; rintro e w2 ⟨rfl, b2⟩
    have h2 := h1.below b2
    have x2 := x1.below b2
    clear d0 d1 d2 d3 d4
    obtain ⟨d0, d1, d2, d3, d4⟩ := h2.cells5
    go_wp2_with fail
    refine (HD.out _ _ h2.p2).mono ?_; rintro e wz ⟨rfl, h3, x3⟩
    have x4 := x2.trans x3
    obtain ⟨A, c, h4⟩ := tlbAt_open h3
    clear d0 d1 d2 d3 d4 h1 h2 x1 x2 h HC HD h3
    have hl' : l1.length ≤ 1000 := by omega
    clear hle
    have c0 : wz.cell? ⟨p, 0, none⟩ = some (.slice A l1.length c) := h4.cell 0
    have cp := h4.lt
    go_wp2_with fail
    have hsm := (lrow_small h4.right).1
    have c0 := h4.cell 0
    have cp := h4.lt
    have cf := h4.free 0
    obtain ⟨d0, d1, d2, d3, d4⟩ := h4.right.right.cells5
    have dl := h4.right.right.lt
    have hrow := (h4.drew.p2).alloc (.cells #[(Value.int .i64) x.m.page, (Value.int .i64) x.m.size, (Value.int .i64) x.m.frame, (Value.int .i64) x.m.rights, Value.bool x.dirty] 100)
    go_region_law (refine step_append_has rfl (.tmp 25) (.tmp 27) 114 rfl Try.underlying114 elemLn _ _ _ (by simp [Act.eval]) hrow ⟨wz.heap.size, 0, none⟩ 1 1 x.cells (by simp [Act.eval]) rfl (news_many wz.drew x.cells 100) (oneCells x) (by unfold maxLen; omega) (by omega) ?_; intro A' c' w5 h5 x5; have g0 := h5.right.lt; have g1 := h5.right.free 0; have g2 := h5.right.cell 0)
    all_goals
      go_wp2_with fail
      go_ret
      exact ⟨rfl, put_shut (h5.p2.set 0 _), ((x4.drew.alloc _).trans x5).set _ _⟩
theorem Tl.Ok.lok {l : List Ln} (h : Tl.Ok l) : LOk l := fun x hx => by
  have hm := mapOk_of (h.chk x hx)
  have := hm.p0
  have := hm.p1
  have := hm.sp
  exact ⟨by omega, by omega⟩
theorem putT (p : Nat) (l : List Ln) (x : Ln) (R : HProp) (w : World) (hl : Tl.Ok l) (hx : i64 x.m.page) (h : Has w (tlbAt p l * R)) :
    Calls Try.prog 46 #[.pointer (some ⟨p, 0, none⟩), .agg #[(Value.int .i64) x.m.page, (Value.int .i64) x.m.size, (Value.int .i64) x.m.frame, (Value.int .i64) x.m.rights, Value.bool x.dirty]] w (Res (Value.bool (decide (check x.m = 0))) (tlbAt p (Tl.put l x) * R) w) := by
  unfold Tl.put
  by_cases hc : check x.m = 0
  · rw [if_pos hc, decide_eq_true hc]
    exact put_yes p l x R w hl.lok hx (Nat.le_trans hl.len (by omega)) hc h
  · rw [if_neg hc, decide_eq_false hc]
    exact put_no p l x R w hc h
theorem evictT (p : Nat) (l : List Ln) (R : HProp) (w : World) (h : Has w (tlbAt p l * R)) :
    Calls Try.prog 27 #[.pointer (some ⟨p, 0, none⟩)] w (Res (Value.bool (decide (0 < l.length))) (tlbAt p (Tl.evict l) * R) w) := by
  unfold Tl.evict
  cases l with
  | nil => exact evict_no p R w h
  | cons x l => exact evict_yes p (x :: l) R w (by simp) h
end Go.Proofs.Ytmfheghbgihdmaa
namespace Go.Proofs.Ytmfheghbgihdmaa
open Go.RowKit
set_option maxRecDepth 100000
def pcAt (b : Nat) (l : List Ln) (root : Int) (k : Ck) : HProp := ex fun t => ex fun v => blk b #[.pointer (some ⟨t, 0, none⟩), .pointer (some ⟨v, 0, none⟩)] 74 * (tlbAt t l * walkerAt v root k)
theorem pcAt_open {b : Nat} {l : List Ln} {root : Int} {k : Ck} {R : HProp} {w : World} (h : Has w (pcAt b l root k * R)) :
    ∃ t v, Has w (blk b #[.pointer (some ⟨t, 0, none⟩), .pointer (some ⟨v, 0, none⟩)] 74 * (tlbAt t l * (walkerAt v root k * R))) := by
  unfold pcAt at h
  obtain ⟨t, h⟩ := has_ex_star.1 h
  obtain ⟨v, h⟩ := has_ex_star.1 h
  exact ⟨t, v, h.eq (by ac_rfl)⟩
theorem pcAt_shut {b t v : Nat} {l : List Ln} {root : Int} {k : Ck} {R : HProp} {w : World} (h : Has w (blk b #[.pointer (some ⟨t, 0, none⟩), .pointer (some ⟨v, 0, none⟩)] 74 * (tlbAt t l * (walkerAt v root k * R)))) : Has w (pcAt b l root k * R) := by
  unfold pcAt
  exact has_ex_star.2 ⟨t, has_ex_star.2 ⟨v, h.eq (by ac_rfl)⟩⟩
theorem newC (root : Int) (R : HProp) (w : World) (h : Has w R) : Calls Try.prog 20 #[(Value.int .i64) root] w fun e w' => ∃ b, Res (.pointer (some ⟨b, 0, none⟩)) (pcAt b [] root Ck.zero * R) w e w' := by
  go_enter Try.func20, Try.ntmps20
  go_wp2_with fail
  refine (newT _ _ h).mono ?_; rintro e w2 ⟨t, rfl, h2, x2⟩
  go_wp2_with fail
  refine (newW root _ _ h2).mono ?_; rintro e w3 ⟨v, rfl, h3, x3⟩
  have h4 := pcAt_shut ((h3.new #[.pointer (some ⟨t, 0, none⟩), .pointer (some ⟨v, 0, none⟩)] 74).eq (show _ = blk w3.heap.size #[.pointer (some ⟨t, 0, none⟩), .pointer (some ⟨v, 0, none⟩)] 74 * (tlbAt t [] * (walkerAt v root Ck.zero * R)) by ac_rfl))
  have x4 := (x2.trans x3).alloc (.cells #[.pointer (some ⟨t, 0, none⟩), .pointer (some ⟨v, 0, none⟩)] 74)
  go_wp2_with fail
  go_ret
  exact ⟨_, rfl, h4, x4⟩
theorem busyC (b : Nat) (l : List Ln) (root : Int) (k : Ck) (R : HProp) (w : World) (h : Has w (pcAt b l root k * R)) : Calls Try.prog 30 #[.pointer (some ⟨b, 0, none⟩)] w (Same (Value.bool k.on) w) := by
  obtain ⟨t, v, h⟩ := pcAt_open h
  obtain ⟨c0, c1⟩ := h.cells2
  have cl := h.lt
  have HO := Lib.hid (onW v root k _ _ h.right.p2)
  clear h
  go_enter Try.func30, Try.ntmps30
  go_wp2_with (refine HO.out.mono ?_; rintro e w2 ⟨rfl, rfl⟩)
  go_ret
  exact ⟨rfl, rfl⟩
theorem accessC (b : Nat) (l : List Ln) (root : Int) (k : Ck) (R : HProp) (w : World) (h : Has w (pcAt b l root k * R)) : Calls Try.prog 31 #[.pointer (some ⟨b, 0, none⟩)] w (Pure (.agg #[(Value.int .i64) k.a.page, (Value.int .i64) k.a.kind, Value.bool k.a.user]) w) := by
  obtain ⟨t, v, h⟩ := pcAt_open h
  have h1 := (has_old w).new #[(Value.int .i64) 0, (Value.int .i64) 0, Value.bool false] 33
  have hw := h.alloc (.cells #[(Value.int .i64) 0, (Value.int .i64) 0, Value.bool false] 33)
  have x1 := (Ext.refl w).alloc (.cells #[(Value.int .i64) 0, (Value.int .i64) 0, Value.bool false] 33)
  have HA := Lib.hid (fun R X h => accessW v root k R X h)
  obtain ⟨c0, c1⟩ := hw.cells2
  have cl := hw.lt
  clear h
  go_enter Try.func31, Try.ntmps31
  go_wp2_with fail
  refine (HA.out _ _ (hw.right.right)).mono ?_; rintro e w2 ⟨rfl, b2⟩
  have h2 := h1.below b2
  have x2 := x1.below b2
  obtain ⟨r0, r1, r2⟩ := h2.cells3
  obtain ⟨g0, g1, g2⟩ := h2.frees3
  have rl := h2.lt
  go_wp2_with fail
  refine ret_via (fun wz => Has wz (blk w.heap.size #[(Value.int .i64) k.a.page, (Value.int .i64) k.a.kind, Value.bool k.a.user] 33 * (old w w.heap.size)) ∧ Ext w wz) ⟨h2.set3 _ _ _, by (repeat (first | with_reducible assumption | with_reducible exact Ext.refl _ | with_reducible refine Ext.set ?_ _ _ | with_reducible refine Ext.alloc ?_ _ | with_reducible refine Ext.drew ?_ | with_reducible refine Ext.drewN ?_ _ | assumption | exact Ext.refl _ | refine Ext.alloc ?_ _ | refine Ext.set ?_ _ _ | refine Ext.drew ?_ | refine Ext.drewN ?_ _ | refine Ext.below ?_ (by assumption) | refine Ext.trans ?_ (by assumption)))⟩ ?_
  rintro wz ⟨hz, xz⟩
  exact bodyPost_ret (results_c Try.results31 rfl (load_access hz)) rfl ⟨rfl, below_of1 hz.right xz⟩
set_option maxHeartbeats 2000000 in
theorem toldC (b : Nat) (l : List Ln) (root : Int) (k : Ck) (m : Mp) (hl : Tl.Ok l) (hm : i64 m.page) (R : HProp) (w : World) (h : Has w (pcAt b l root k * R)) :
    Calls Try.prog 48 #[.pointer (some ⟨b, 0, none⟩), .agg #[(Value.int .i64) m.page, (Value.int .i64) m.size, (Value.int .i64) m.frame, (Value.int .i64) m.rights]] w (Res (.tuple #[]) (pcAt b (Tl.drop l m) root (k.again root) * R) w) := by
  obtain ⟨t, v, h⟩ := pcAt_open h
  have h1 : Has _ (tlbAt t l * (blk b #[.pointer (some ⟨t, 0, none⟩), .pointer (some ⟨v, 0, none⟩)] 74 * (blk w.heap.size #[(Value.int .i64) m.page, (Value.int .i64) m.size, (Value.int .i64) m.frame, (Value.int .i64) m.rights] 31 * (walkerAt v root k * R)))) := (h.new #[(Value.int .i64) m.page, (Value.int .i64) m.size, (Value.int .i64) m.frame, (Value.int .i64) m.rights] 31).eq (by ac_rfl)
  have x1 := (Ext.refl w).alloc (.cells #[(Value.int .i64) m.page, (Value.int .i64) m.size, (Value.int .i64) m.frame, (Value.int .i64) m.rights] 31)
  have HD := Lib.hid (fun R X h => dropT t l m R X hl.lok hm h)
  have HA := Lib.hid (fun R X h => againW v root k R X h)
  clear h hl hm
  go_enter Try.func48, Try.ntmps48
  go_upto_region 1 with fail
  generalize w.alloc (.cells #[(Value.int .i64) m.page, (Value.int .i64) m.size, (Value.int .i64) m.frame, (Value.int .i64) m.rights] 31) = w1 at *
  generalize w.heap.size = X at *
  obtain ⟨c0, c1⟩ := h1.right.cells2
  have cl := h1.right.lt
  obtain ⟨m0, m1, m2, m3⟩ := h1.right.right.cells4
  have ml := h1.right.right.lt
  have HK := Lib.hid (fun (w' : World) (P Q : HProp) (h : Has w' (P * (blk b #[.pointer (some ⟨t, 0, none⟩), .pointer (some ⟨v, 0, none⟩)] 74 * (blk X #[(Value.int .i64) m.page, (Value.int .i64) m.size, (Value.int .i64) m.frame, (Value.int .i64) m.rights] 31 * Q)))) => (by
    obtain ⟨b0, _⟩ := h.right.cells2
    obtain ⟨m0, m1, m2, m3⟩ := h.right.right.cells4
    exact ⟨b0, m0, m1, m2, m3⟩ : w'.cell? ⟨b, 0, none⟩ = some (.pointer (some ⟨t, 0, none⟩)) ∧ w'.cell? ⟨X, 0, none⟩ = some ((Value.int .i64) m.page) ∧ w'.cell? ⟨X, 1, none⟩ = some ((Value.int .i64) m.size) ∧ w'.cell? ⟨X, 2, none⟩ = some ((Value.int .i64) m.frame) ∧ w'.cell? ⟨X, 3, none⟩ = some ((Value.int .i64) m.rights)))
  have h2 := h1.drew
  have x2 := x1.drew
  go_region_held3 (fun w' => w'.cell? ⟨b, 0, none⟩ = some (.pointer (some ⟨t, 0, none⟩)) ∧ w'.cell? ⟨X, 0, none⟩ = some ((Value.int .i64) m.page) ∧ w'.cell? ⟨X, 1, none⟩ = some ((Value.int .i64) m.size) ∧ w'.cell? ⟨X, 2, none⟩ = some ((Value.int .i64) m.frame) ∧ w'.cell? ⟨X, 3, none⟩ = some ((Value.int .i64) m.rights)) (first | (with_reducible exact HK.out _ _ _ h2) | (with_reducible exact HK.out _ _ _ h3) | go_keep) (first | (go_at_call 78; (with_reducible refine (HD.out _ _ h2).mono ?_); rintro e w3 ⟨rfl, h3, x3⟩))
  have x4 := x2.trans x3
  clear h1 h2 x1 x2 x3 c0 c1 cl m0 m1 m2 m3 ml HK HD
  obtain ⟨c0, c1⟩ := h3.right.cells2
  have cl := h3.right.lt
  have h4 : Has w3 (walkerAt v root k * (tlbAt t (Tl.drop l m) * (blk b #[.pointer (some ⟨t, 0, none⟩), .pointer (some ⟨v, 0, none⟩)] 74 * (blk X #[(Value.int .i64) m.page, (Value.int .i64) m.size, (Value.int .i64) m.frame, (Value.int .i64) m.rights] 31 * R)))) := h3.eq (by ac_rfl)
  go_wp2_with fail
  refine (HA.out _ _ h4).mono ?_; rintro e w5 ⟨rfl, h5, x5⟩
  have h6 := pcAt_shut (h5.eq (show _ = blk b #[.pointer (some ⟨t, 0, none⟩), .pointer (some ⟨v, 0, none⟩)] 74 * (tlbAt t (Tl.drop l m) * (walkerAt v root (k.again root) * (blk X #[(Value.int .i64) m.page, (Value.int .i64) m.size, (Value.int .i64) m.frame, (Value.int .i64) m.rights] 31 * R))) by ac_rfl))
  go_wp2_with fail
  exact bodyPost_ret (v := .tuple #[]) (by simp [results, Try.results48]) rfl ⟨rfl, h6.p2.right, x4.trans x5⟩
end Go.Proofs.Ytmfheghbgihdmaa
namespace Go.Proofs.Ytmfheghbgihdmaa
open Go.RowKit
set_option maxRecDepth 100000
set_option maxHeartbeats 4000000 in
theorem stepPC' (b f : Nat) (l : List Ln) (root : Int) (k : Ck) (s : Ms) (fin d : Bool) (af afr ari p0 p1 p2 p3 code : Int) (k' : Ck) (s' : Ms) (L : List Ln) (hp : Hid (stepC s root k = ⟨k', s', ⟨fin, ⟨af, afr, ari⟩, ⟨⟨p0, p1, p2, p3⟩, d⟩⟩, code⟩)) (HL : Hid (L = if fin = true ∧ af = 0 then Tl.put l ⟨⟨p0, p1, p2, p3⟩, d⟩ else l)) (hl : Tl.Ok l) (hs : s.Ok) (hk : k.Ok) (R : HProp) (W : World) (h : Has W (pcAt b l root k * (framesAt f s * R))) :
    Calls Try.prog 25 #[.pointer (some ⟨b, 0, none⟩), .pointer (some ⟨f, 0, none⟩)] W
      (Res (.tuple #[.agg #[(Value.int .i64) af, (Value.int .i64) afr, (Value.int .i64) ari], Value.bool fin, (Value.int .i64) code]) (pcAt b L root k' * (framesAt f s' * R)) W) := by
  have hp0 : i64 p0 := by have := stepC_page s root k; rw [hp.out] at this; exact this
  have hbad : code ≠ 0 → fin = false ∧ af = 0 ∧ afr = 0 ∧ ari = 0 := fun hc => by
    have := stepC_bad (s := s) (root := root) (c := k) (by rw [hp.out]; exact hc)
    rw [hp.out] at this
    injection this with h1 h2 h3
    injection h2 with h4 h5 h6
    exact ⟨h1, h4, h5, h6⟩
  obtain ⟨t, v, h⟩ := pcAt_open h
  have HS := Lib.hid (fun R X h => stepW v f root k s hs hk R X h)
  rw [hp.out] at HS
  dsimp only [RsV] at HS
  have h1 : Has _ (walkerAt v root k * (framesAt f s * (blk b #[.pointer (some ⟨t, 0, none⟩), .pointer (some ⟨v, 0, none⟩)] 74 * (tlbAt t l * (blk W.heap.size #[(Value.int .i64) 0, (Value.int .i64) 0, (Value.int .i64) 0] 37 * R))))) := (h.new #[(Value.int .i64) 0, (Value.int .i64) 0, (Value.int .i64) 0] 37).eq (by ac_rfl)
  have x1 := (Ext.refl W).alloc (.cells #[(Value.int .i64) 0, (Value.int .i64) 0, (Value.int .i64) 0] 37)
  clear h hs hk hp
  go_enter Try.func25, Try.ntmps25
  go_upto_region 1 with fail
  generalize W.alloc (.cells #[(Value.int .i64) 0, (Value.int .i64) 0, (Value.int .i64) 0] 37) = W1 at *
  generalize W.heap.size = X0 at *
  obtain ⟨c0, c1⟩ := h1.right.right.cells2
  have cl := h1.right.right.lt
  go_wp2_with fail
  refine (HS.out _ _ h1).mono ?_; rintro e w3 ⟨rfl, h3, x3⟩
  have h4 : Has _ (blk w3.heap.size #[Value.bool fin, (Value.int .i64) af, (Value.int .i64) afr, (Value.int .i64) ari, (Value.int .i64) p0, (Value.int .i64) p1, (Value.int .i64) p2, (Value.int .i64) p3, Value.bool d] 106 * (blk X0 #[(Value.int .i64) 0, (Value.int .i64) 0, (Value.int .i64) 0] 37 * (blk b #[.pointer (some ⟨t, 0, none⟩), .pointer (some ⟨v, 0, none⟩)] 74 * (tlbAt t l * (walkerAt v root k' * (framesAt f s' * R)))))) := (h3.new #[Value.bool fin, (Value.int .i64) af, (Value.int .i64) afr, (Value.int .i64) ari, (Value.int .i64) p0, (Value.int .i64) p1, (Value.int .i64) p2, (Value.int .i64) p3, Value.bool d] 106).eq (by ac_rfl)
  have x4 := (x1.trans x3).alloc (.cells #[Value.bool fin, (Value.int .i64) af, (Value.int .i64) afr, (Value.int .i64) ari, (Value.int .i64) p0, (Value.int .i64) p1, (Value.int .i64) p2, (Value.int .i64) p3, Value.bool d] 106)
  clear h1 x1 h3 x3 HS c0 c1 cl
  go_upto_region 2 with fail
  generalize w3.alloc (.cells #[Value.bool fin, (Value.int .i64) af, (Value.int .i64) afr, (Value.int .i64) ari, (Value.int .i64) p0, (Value.int .i64) p1, (Value.int .i64) p2, (Value.int .i64) p3, Value.bool d] 106) = w4 at *
  generalize w3.heap.size = V at *
  obtain ⟨v0, v1, v2, v3, v4, v5, v6, v7, v8⟩ := h4.cells9
  have vl := h4.lt
  obtain ⟨r0, r1, r2⟩ := h4.right.cells3
  obtain ⟨g0, g1, g2⟩ := h4.right.frees3
  have rl := h4.right.lt
  obtain ⟨c0, c1⟩ := h4.right.right.cells2
  have cl := h4.right.right.lt
  by_cases hc : code = 0
  · subst hc
    clear hbad
    by_cases hcond : fin = true ∧ af = 0
    · have HL' := HL.out
      rw [if_pos hcond] at HL'
      clear HL
      obtain ⟨rfl, rfl⟩ := hcond
      have HP := Lib.hid (fun R X h => putT t l ⟨⟨p0, p1, p2, p3⟩, d⟩ R X hl hp0 h)
      dsimp only at HP
      rw [← HL'] at HP
      clear hp0 hl HL'
      generalize decide (check ⟨p0, p1, p2, p3⟩ = 0) = okp at *
      have h5 : Has w4.drew (tlbAt t l * (blk V #[Value.bool true, (Value.int .i64) 0, (Value.int .i64) afr, (Value.int .i64) ari, (Value.int .i64) p0, (Value.int .i64) p1, (Value.int .i64) p2, (Value.int .i64) p3, Value.bool d] 106 * (blk b #[.pointer (some ⟨t, 0, none⟩), .pointer (some ⟨v, 0, none⟩)] 74 * (blk X0 #[(Value.int .i64) 0, (Value.int .i64) 0, (Value.int .i64) 0] 37 * (walkerAt v root k' * (framesAt f s' * R)))))) := h4.drew.eq (by ac_rfl)
      have x5 := x4.drew
      have HK := Lib.hid (fun (w' : World) (P Q : HProp) (h : Has w' (P * (blk V #[Value.bool true, (Value.int .i64) 0, (Value.int .i64) afr, (Value.int .i64) ari, (Value.int .i64) p0, (Value.int .i64) p1, (Value.int .i64) p2, (Value.int .i64) p3, Value.bool d] 106 * (blk b #[.pointer (some ⟨t, 0, none⟩), .pointer (some ⟨v, 0, none⟩)] 74 * Q)))) => (by
        obtain ⟨_, _, _, _, m4, m5, m6, m7, m8⟩ := h.right.cells9
        obtain ⟨b0, _⟩ := h.right.right.cells2
        exact ⟨b0, m4, m5, m6, m7, m8⟩ : w'.cell? ⟨b, 0, none⟩ = some (.pointer (some ⟨t, 0, none⟩)) ∧ w'.cell? ⟨V, 4, none⟩ = some ((Value.int .i64) p0) ∧ w'.cell? ⟨V, 5, none⟩ = some ((Value.int .i64) p1) ∧ w'.cell? ⟨V, 6, none⟩ = some ((Value.int .i64) p2) ∧ w'.cell? ⟨V, 7, none⟩ = some ((Value.int .i64) p3) ∧ w'.cell? ⟨V, 8, none⟩ = some (Value.bool d)))
      go_upto_region 5 with fail
      go_region_held3 (fun w' => w'.cell? ⟨b, 0, none⟩ = some (.pointer (some ⟨t, 0, none⟩)) ∧ w'.cell? ⟨V, 4, none⟩ = some ((Value.int .i64) p0) ∧ w'.cell? ⟨V, 5, none⟩ = some ((Value.int .i64) p1) ∧ w'.cell? ⟨V, 6, none⟩ = some ((Value.int .i64) p2) ∧ w'.cell? ⟨V, 7, none⟩ = some ((Value.int .i64) p3) ∧ w'.cell? ⟨V, 8, none⟩ = some (Value.bool d)) (first | (with_reducible exact HK.out _ _ _ h5) | (with_reducible exact HK.out _ _ _ h6) | go_keep) (first | (go_at_call 46; (with_reducible refine (HP.out _ _ h5).mono ?_); rintro e w6 ⟨rfl, h6, x6⟩))
      have x7 := x5.trans x6
      clear h4 h5 x4 x5 x6 HP HK v0 v1 v2 v3 v4 v5 v6 v7 v8 vl r0 r1 r2 g0 g1 g2 rl c0 c1 cl
      have h7 : Has w6 (blk X0 #[(Value.int .i64) 0, (Value.int .i64) 0, (Value.int .i64) 0] 37 * (blk V #[Value.bool true, (Value.int .i64) 0, (Value.int .i64) afr, (Value.int .i64) ari, (Value.int .i64) p0, (Value.int .i64) p1, (Value.int .i64) p2, (Value.int .i64) p3, Value.bool d] 106 * (blk b #[.pointer (some ⟨t, 0, none⟩), .pointer (some ⟨v, 0, none⟩)] 74 * (tlbAt t L * (walkerAt v root k' * (framesAt f s' * R)))))) := h6.eq (by ac_rfl)
      clear h6
      obtain ⟨v0, v1, v2, v3, v4, v5, v6, v7, v8⟩ := h7.right.cells9
      have vl := h7.right.lt
      have vn := h7.ne
      have vn' := vn.symm
      obtain ⟨r0, r1, r2⟩ := h7.cells3
      obtain ⟨g0, g1, g2⟩ := h7.frees3
      have rl := h7.lt
      go_upto_region 6 with fail
      go_region
      all_goals
        go_wp2_with fail
        refine ret_via (fun wz => Has wz (blk X0 #[(Value.int .i64) 0, (Value.int .i64) afr, (Value.int .i64) ari] 37 * (blk V #[Value.bool true, (Value.int .i64) 0, (Value.int .i64) afr, (Value.int .i64) ari, (Value.int .i64) p0, (Value.int .i64) p1, (Value.int .i64) p2, (Value.int .i64) p3, Value.bool d] 106 * (blk b #[.pointer (some ⟨t, 0, none⟩), .pointer (some ⟨v, 0, none⟩)] 74 * (tlbAt t L * (walkerAt v root k' * (framesAt f s' * R)))))) ∧ Ext W wz) ⟨by first | exact (h7.set3 _ _ _).drew | exact h7.drew.set3 _ _ _, by (repeat (first | with_reducible assumption | with_reducible exact Ext.refl _ | with_reducible refine Ext.set ?_ _ _ | with_reducible refine Ext.alloc ?_ _ | with_reducible refine Ext.drew ?_ | with_reducible refine Ext.drewN ?_ _ | assumption | exact Ext.refl _ | refine Ext.alloc ?_ _ | refine Ext.set ?_ _ _ | refine Ext.drew ?_ | refine Ext.drewN ?_ _ | refine Ext.below ?_ (by assumption) | refine Ext.trans ?_ (by assumption)))⟩ ?_
        rintro wz ⟨hz, xz⟩
        exact bodyPost_ret (results_ctt Try.results25 rfl rfl rfl (load_answer hz)) rfl ⟨rfl, pcAt_shut hz.right.right, xz⟩
    · have HL' := HL.out
      rw [if_neg hcond] at HL'
      clear HL
      subst HL'
      have h7 := h4.p2
      have vn := h7.ne
      have vn' := vn.symm
      go_upto_region 4 with fail
      go_cut [29] from 22 to 29 (fun s29 wx => s29 = Value.bool false ∧ wx = w4)
      case first =>
        cases fin with
        | false =>
          go_wp2_with fail
          go_meet
          case rel => exact ⟨rfl, rfl⟩
        | true =>
          have ha : (af == 0) = false := by simpa using hcond
          clear hcond
          go_wp2_with fail
          go_meet
          case rel => exact ⟨rfl, rfl⟩
      case rest =>
        obtain ⟨rfl, rfl⟩ := hcut
        go_upto_region 6 with fail
        go_region
        all_goals
          go_wp2_with fail
          refine ret_via (fun wz => Has wz (blk X0 #[(Value.int .i64) af, (Value.int .i64) afr, (Value.int .i64) ari] 37 * (blk V #[Value.bool fin, (Value.int .i64) af, (Value.int .i64) afr, (Value.int .i64) ari, (Value.int .i64) p0, (Value.int .i64) p1, (Value.int .i64) p2, (Value.int .i64) p3, Value.bool d] 106 * (blk b #[.pointer (some ⟨t, 0, none⟩), .pointer (some ⟨v, 0, none⟩)] 74 * (tlbAt t L * (walkerAt v root k' * (framesAt f s' * R)))))) ∧ Ext W wz) ⟨by first | exact (h7.set3 _ _ _).drew | exact h7.drew.set3 _ _ _, by (repeat (first | with_reducible assumption | with_reducible exact Ext.refl _ | with_reducible refine Ext.set ?_ _ _ | with_reducible refine Ext.alloc ?_ _ | with_reducible refine Ext.drew ?_ | with_reducible refine Ext.drewN ?_ _ | assumption | exact Ext.refl _ | refine Ext.alloc ?_ _ | refine Ext.set ?_ _ _ | refine Ext.drew ?_ | refine Ext.drewN ?_ _ | refine Ext.below ?_ (by assumption) | refine Ext.trans ?_ (by assumption)))⟩ ?_
          rintro wz ⟨hz, xz⟩
          exact bodyPost_ret (results_ctt Try.results25 rfl rfl rfl (load_answer hz)) rfl ⟨rfl, pcAt_shut hz.right.right, xz⟩
  · obtain ⟨rfl, rfl, rfl, rfl⟩ := hbad hc
    have hn : (code != 0) = true := by simpa using hc
    have HL' := HL.out
    rw [if_neg (by simp)] at HL'
    clear HL hc
    subst HL'
    go_wp2_with fail
    refine ret_via (fun wz => Has wz (blk X0 #[(Value.int .i64) 0, (Value.int .i64) 0, (Value.int .i64) 0] 37 * (blk V #[Value.bool false, (Value.int .i64) 0, (Value.int .i64) 0, (Value.int .i64) 0, (Value.int .i64) p0, (Value.int .i64) p1, (Value.int .i64) p2, (Value.int .i64) p3, Value.bool d] 106 * (blk b #[.pointer (some ⟨t, 0, none⟩), .pointer (some ⟨v, 0, none⟩)] 74 * (tlbAt t L * (walkerAt v root k' * (framesAt f s' * R)))))) ∧ Ext W wz) ⟨h4.p2.set3 _ _ _, by (repeat (first | with_reducible assumption | with_reducible exact Ext.refl _ | with_reducible refine Ext.set ?_ _ _ | with_reducible refine Ext.alloc ?_ _ | with_reducible refine Ext.drew ?_ | with_reducible refine Ext.drewN ?_ _ | assumption | exact Ext.refl _ | refine Ext.alloc ?_ _ | refine Ext.set ?_ _ _ | refine Ext.drew ?_ | refine Ext.drewN ?_ _ | refine Ext.below ?_ (by assumption) | refine Ext.trans ?_ (by assumption)))⟩ ?_
    rintro wz ⟨hz, xz⟩
    exact bodyPost_ret (results_ctt Try.results25 rfl rfl rfl (load_answer hz)) rfl ⟨rfl, pcAt_shut hz.right.right, xz⟩
theorem stepPC (b f : Nat) (l : List Ln) (root : Int) (k : Ck) (s : Ms) (hl : Tl.Ok l) (hs : s.Ok) (hk : k.Ok) (R : HProp) (W : World) (h : Has W (pcAt b l root k * (framesAt f s * R))) :
    Calls Try.prog 25 #[.pointer (some ⟨b, 0, none⟩), .pointer (some ⟨f, 0, none⟩)] W
      (Res (.tuple #[.agg #[(Value.int .i64) (stepC s root k).r.an.fin, (Value.int .i64) (stepC s root k).r.an.frame, (Value.int .i64) (stepC s root k).r.an.rights], Value.bool (stepC s root k).r.fin, (Value.int .i64) (stepC s root k).code]) (pcAt b (keepL l (stepC s root k).r) root (stepC s root k).c * (framesAt f (stepC s root k).s * R)) W) :=
  stepPC' b f l root k s _ _ _ _ _ _ _ _ _ _ _ _ (keepL l (stepC s root k).r) (Lib.hid rfl) (Lib.hid rfl) hl hs hk R W h
end Go.Proofs.Ytmfheghbgihdmaa
