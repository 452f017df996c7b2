/- A list of all mappings is the book, and a list of all tables has each once; with no program in sight. -/
import Derived.Test.YtegkimecdonfgaaFrm
import Derived.Test.YtegkimecdonfgaaEach
import Derived.Test.YtegkimecdonfgaaWalkM2
import Derived.Test.YtegkimecdonfgaaEntry
import Derived.Test.YtegkimecdonfgaaTabR
import Derived.Test.YtegkimecdonfgaaWkFind
namespace Go.Proofs.Ytegkimecdonfgaa
open Go.RowKit
section
variable {s : Ms} {r : Int} {gone : List Int} {X : Int → Prop}
theorem scan_code (s : Ms) (L : Nat) (t a : Int) : ∀ is : List Nat, (∀ i ∈ is, decC (wordV s t i) L = 0 ∧ ((decE (wordV s t i) L).there = true ∧ (decE (wordV s t i) L).leaf = false → (subV s L (decE (wordV s t i) L).frame (a * 8 + i)).code = 0)) → (scanV s L t a (subV s L) is).code = 0
  | [], _ => rfl
  | i :: is, h => by
    obtain ⟨h1, h2⟩ := h i (List.mem_cons_self ..)
    have ih := scan_code s L t a is fun j hj => h j (List.mem_cons_of_mem _ hj)
    unfold scanV
    rw [if_neg (by rw [h1]; simp)]
    dsimp only
    by_cases he : (decE (wordV s t i) L).there = true ∧ (decE (wordV s t i) L).leaf = false
    · rw [if_pos he, if_neg (by rw [h2 he]; simp)]
      exact ih
    · rw [if_neg he, if_neg (by simp)]
      exact ih
/-- What a look over all entries below a table comes to. -/
structure AllOk (s : Ms) (r : Int) (L : Nat) (t a : Int) : Prop where
  code : (eachV s L t a).code = 0
  maps : ∀ m ∈ mapsOf (eachV s L t a).vs, MapOk m ∧ a * pow8 (L + 1) ≤ m.page ∧ m.page + span m.size ≤ (a + 1) * pow8 (L + 1)
  up : (mapsOf (eachV s L t a).vs).Pairwise fun x y => x.page + span x.size ≤ y.page
  tabs : ∀ u, u ∈ tabsOf (eachV s L t a).vs ↔ ∃ q e, InP q ∧ q / pow8 (L + 1) = a ∧ 3 - L < e ∧ e ≤ 3 ∧ tabD s r q e = some u
  nd : (tabsOf (eachV s L t a).vs).Nodup
theorem pre_at {q a : Int} {L i : Nat} (hq : InP q) (hL : L ≤ 3) (h : q / pow8 (L + 1) = a) (hi : index q L = i) : q / pow8 L = a * 8 + i := by
  have h0 := pow8_pos L
  rw [pow8_succ, Int.mul_comm, ← Int.ediv_ediv_of_nonneg (by omega)] at h
  unfold index at hi
  rw [if_pos ⟨hq.1, hq.2, by omega, by omega⟩, Int.toNat_natCast] at hi
  omega
/-- What one entry gives. -/
structure OneOk (s : Ms) (r : Int) (L : Nat) (t a : Int) (i : Nat) : Prop where
  code : decC (wordV s t i) L = 0 ∧ ((decE (wordV s t i) L).there = true ∧ (decE (wordV s t i) L).leaf = false → (subV s L (decE (wordV s t i) L).frame (a * 8 + i)).code = 0)
  maps : ∀ m ∈ contr s L t a i, MapOk m ∧ (a * 8 + i) * pow8 L ≤ m.page ∧ m.page + span m.size ≤ (a * 8 + i + 1) * pow8 L
  up : (contr s L t a i).Pairwise fun x y => x.page + span x.size ≤ y.page
  tabs : ∀ u, u ∈ contrT s L t a i ↔ ∃ q e, InP q ∧ q / pow8 L = a * 8 + i ∧ 3 - L < e ∧ e ≤ 3 ∧ tabD s r q e = some u
  nd : (contrT s L t a i).Nodup
theorem leaf_mapOk {w : Int} {L : Nat} {p : Int} (hp : InP p) (hc : decC w L = 0) (hl : (decE w L).leaf = true) : MapOk (leafMap (decE w L) L p) ∧ leafMap (decE w L) L p = ⟨p / pow8 L * pow8 L, L, (decE w L).frame, (decE w L).rights⟩ ∧ L < 3 := by
  obtain ⟨ht, _, h3, _, hf⟩ := dec_leaf hc hl
  have h3' : L < 3 := by omega
  have hs := span_pow h3'
  have e1 := leafMap_eq hp hf hl hs
  have hk := entOk_of hf ht
  have hL := (hk.leaf hl).2
  rw [hs] at hL
  have k1 := hk.r0; have k2 := hk.r7; have k3 := hk.f0; have k4 := hk.f1
  have hp' : 0 ≤ p ∧ p < 4096 := hp
  refine ⟨?_, e1, h3'⟩
  rw [e1]
  refine mapOk_of ?_
  unfold check
  dsimp only
  rw [hs]
  have h8 := pow8_pos L
  have hd : L = 0 ∨ L = 1 ∨ L = 2 := by omega
  rw [if_neg (by omega), if_neg, if_neg]
  · rw [Int.mul_emod_left]; omega
  · generalize (decE w L).rights = ri at *
    generalize (decE w L).frame = fr at *
    clear e1 ht hl hf hk hL hs h8 hc
    rcases hd with h | h | h <;> rw [h] <;> simp only [pow8] <;> omega
theorem one_ok (hw : Wf s r gone X) {L : Nat} (hL : L ≤ 3) {p t a : Int} (hp : InP p) (ht : tabD s r p (3 - L) = some t) (ha : p / pow8 (L + 1) = a) (i : Nat) (hi : i < 8)
    (ih : ∀ K, L = K + 1 → ∀ {q u : Int}, InP q → tabD s r q (3 - K) = some u → AllOk s r K u (q / pow8 (K + 1))) : OneOk s r L t a i := by
  obtain ⟨q, hq, hpre, hix, hmod⟩ := page_at hp hL i hi
  rw [ha] at hpre
  have hq8 := pre_at hq hL hpre hix
  have e33 : 3 - (3 - L) = L := by omega
  have hqt : tabD s r q (3 - L) = some t := by
    rw [← ht]
    refine tabD_prefix s r hq hp (3 - L) (by omega) ?_
    rw [show 4 - (3 - L) = L + 1 by omega, hpre, ha]
  have hdec : decC (wordV s t i) L = 0 := by
    have := hw.dec hq (show 3 - L ≤ 3 by omega) hqt i hi
    rw [e33] at this
    exact this
  have h0 := pow8_pos L
  have hqe : q = (a * 8 + i) * pow8 L := by
    have := Int.mul_ediv_add_emod q (pow8 L)
    rw [hq8, hmod] at this
    rw [Int.mul_comm]
    omega
  by_cases hl : (decE (wordV s t i) L).leaf = true
  · obtain ⟨m1, m2, h3⟩ := leaf_mapOk hq hdec hl
    have hc : contr s L t a i = [leafMap (decE (wordV s t i) L) L q] := by
      unfold contr
      dsimp only
      rw [if_pos hl, hqe]
    have hT : contrT s L t a i = [] := by
      unfold contrT
      dsimp only
      rw [if_neg (by rw [hl]; simp)]
    refine ⟨⟨hdec, fun h => by rw [hl] at h; cases h.2⟩, fun m hm => ?_, ?_, fun u => ?_, by rw [hT]; exact List.nodup_nil⟩
    · rw [hc, List.mem_singleton] at hm
      subst hm
      refine ⟨m1, ?_, ?_⟩
      · rw [m2, hq8]; exact Int.le_refl _
      · rw [m2, hq8]
        dsimp only
        rw [span_pow h3]
        have : (a * 8 + (i : Int) + 1) * pow8 L = (a * 8 + i) * pow8 L + pow8 L := by rw [Int.add_mul (a * 8 + i) 1, Int.one_mul]
        omega
    · rw [hc]; exact List.pairwise_singleton _ _
    · rw [hT]
      constructor
      · intro h; cases h
      · rintro ⟨x, e, hx, hx8, h1, h2, h3⟩
        exfalso
        have hxt : tabD s r x (3 - L) = some t := by
          rw [← hqt]
          refine tabD_prefix s r hx hq (3 - L) (by omega) ?_
          rw [show 4 - (3 - L) = L + 1 by omega]
          exact div_up (by omega) (hx8.trans hq8.symm)
        have hxi : index x L = i := by rw [index_div hx hq (hx8.trans hq8.symm)]; exact hix
        have hg : goB s x t (3 - (3 - L)) = false := by
          rw [e33]
          unfold goB eOf
          rw [hxi, hl]
          simp
        rw [tabD_none_mono (tabD_none hxt hg) e (by omega)] at h3
        cases h3
  · have hl' : (decE (wordV s t i) L).leaf = false := by simpa using hl
    by_cases hth : (decE (wordV s t i) L).there = true
    · -- a table
      have hg : goB s q t L = true := by
        refine goB_iff.2 ⟨(hw.at_ hq (show 3 - L ≤ 3 by omega) hqt).1, by rw [hix]; exact hdec, ?_, ?_⟩
        · unfold eOf; rw [hix]; exact hth
        · unfold eOf; rw [hix]; exact hl'
      cases L with
      | zero =>
        exfalso
        rcases dec0_leaf hdec with h | h
        · have h' : (decE (wordV s t i) (0 : Nat)).there = false := h
          rw [h'] at hth; cases hth
        · exact hl h
      | succ K =>
        have hv : tabD s r q (3 - K) = some (decE (wordV s t i) (K + 1 : Nat)).frame := by
          rw [show 3 - K = 3 - (K + 1) + 1 by omega]
          refine tabD_succ.2 ⟨t, hqt, by rw [e33]; exact hg, ?_⟩
          rw [e33]
          unfold eOf
          rw [hix]
        have hA := ih K rfl hq hv
        rw [hq8] at hA
        have hc : contr s (K + 1) t a i = mapsOf (eachV s K (decE (wordV s t i) (K + 1 : Nat)).frame (a * 8 + i)).vs := by
          unfold contr
          dsimp only
          rw [if_neg hl, if_pos hth]
          rfl
        have hT : contrT s (K + 1) t a i = (decE (wordV s t i) (K + 1 : Nat)).frame :: tabsOf (eachV s K (decE (wordV s t i) (K + 1 : Nat)).frame (a * 8 + i)).vs := by
          unfold contrT
          dsimp only
          rw [if_pos ⟨hth, hl'⟩]
          rfl
        refine ⟨⟨hdec, fun _ => hA.code⟩, fun m hm => ?_, by rw [hc]; exact hA.up, fun u => ?_, ?_⟩
        · rw [hc] at hm
          exact hA.maps m hm
        · rw [hT, List.mem_cons, hA.tabs u]
          constructor
          · rintro (rfl | ⟨x, e, hx, hx8, h1, h2, h3⟩)
            · exact ⟨q, 3 - K, hq, hq8, by omega, by omega, hv⟩
            · exact ⟨x, e, hx, hx8, by omega, h2, h3⟩
          · rintro ⟨x, e, hx, hx8, h1, h2, h3⟩
            by_cases he : e = 3 - K
            · subst he
              have : tabD s r x (3 - K) = tabD s r q (3 - K) := by
                refine tabD_prefix s r hx hq (3 - K) (by omega) ?_
                rw [show 4 - (3 - K) = K + 1 by omega]
                exact hx8.trans hq8.symm
              rw [h3, hv] at this
              injection this with this
              exact .inl this
            · exact .inr ⟨x, e, hx, hx8, by omega, h2, h3⟩
        · rw [hT, List.nodup_cons]
          refine ⟨fun hm => ?_, hA.nd⟩
          obtain ⟨x, e, hx, hx8, h1, h2, h3⟩ := (hA.tabs _).1 hm
          have := (hw.inj x q e (3 - K) _ hx hq h2 (by omega) h3 hv).1
          omega
    · -- nothing
      have hc : contr s L t a i = [] := by
        unfold contr
        dsimp only
        rw [if_neg hl, if_neg hth]
      have hT : contrT s L t a i = [] := by
        unfold contrT
        dsimp only
        rw [if_neg (fun h => hth h.1)]
      refine ⟨⟨hdec, fun h => absurd h.1 hth⟩, fun m hm => (by rw [hc] at hm; cases hm), (by rw [hc]; exact List.Pairwise.nil), fun u => ?_, (by rw [hT]; exact List.nodup_nil)⟩
      rw [hT]
      constructor
      · intro h; cases h
      · rintro ⟨x, e, hx, hx8, h1, h2, h3⟩
        exfalso
        have hxt : tabD s r x (3 - L) = some t := by
          rw [← hqt]
          refine tabD_prefix s r hx hq (3 - L) (by omega) ?_
          rw [show 4 - (3 - L) = L + 1 by omega]
          exact div_up (by omega) (hx8.trans hq8.symm)
        have hxi : index x L = i := by rw [index_div hx hq (hx8.trans hq8.symm)]; exact hix
        have hth' : (decE (wordV s t i) L).there = false := by simpa using hth
        have hg : goB s x t (3 - (3 - L)) = false := by
          rw [e33]
          unfold goB eOf
          rw [hxi, hth']
          simp
        rw [tabD_none_mono (tabD_none hxt hg) e (by omega)] at h3
        cases h3
theorem all_step (hw : Wf s r gone X) {L : Nat} (hL : L ≤ 3) {p t : Int} (hp : InP p) (ht : tabD s r p (3 - L) = some t)
    (ih : ∀ K, L = K + 1 → ∀ {q u : Int}, InP q → tabD s r q (3 - K) = some u → AllOk s r K u (q / pow8 (K + 1))) : AllOk s r L t (p / pow8 (L + 1)) := by
  have hone := fun i hi => one_ok hw hL hp ht rfl i hi ih
  generalize hpa : p / pow8 (L + 1) = a at *
  have hhas := (hw.at_ hp (show 3 - L ≤ 3 by omega) ht).1
  have hcode : (scanV s L t a (subV s L) (List.range 8)).code = 0 := scan_code s L t a _ fun i hi => (hone i (List.mem_range.1 hi)).code
  obtain ⟨_, hm, hT⟩ := scan_ok s L t a (List.range 8) hcode
  have ee : eachV s L t a = scanV s L t a (subV s L) (List.range 8) := by rw [eachV_eq, hhas]; rfl
  have h8 := pow8_pos L
  have hexp : a * pow8 (L + 1) = a * 8 * pow8 L := by rw [pow8_succ, Int.mul_assoc]
  have hexp1 : (a + 1) * pow8 (L + 1) = a * 8 * pow8 L + 8 * pow8 L := by rw [Int.add_mul, Int.one_mul, hexp, pow8_succ]
  have hrg : ∀ i : Nat, (a * 8 + (i : Int)) * pow8 L = a * 8 * pow8 L + i * pow8 L := fun i => Int.add_mul _ _ _
  have hrg1 : ∀ i : Nat, (a * 8 + (i : Int) + 1) * pow8 L = a * 8 * pow8 L + i * pow8 L + pow8 L := fun i => by rw [Int.add_mul, Int.add_mul, Int.one_mul]
  have hmul : ∀ i j : Nat, i ≤ j → (i : Int) * pow8 L ≤ j * pow8 L := fun i j h => Int.mul_le_mul_of_nonneg_right (by omega) (by omega)
  refine ⟨by rw [ee]; exact hcode, fun m hmm => ?_, ?_, fun u => ?_, ?_⟩
  · rw [ee, hm] at hmm
    obtain ⟨i, hi, hmi⟩ := List.mem_flatMap.1 hmm
    have hi8 := List.mem_range.1 hi
    obtain ⟨c1, c2, c3⟩ := (hone i hi8).maps m hmi
    rw [hrg] at c2
    rw [hrg1] at c3
    have a1 := hmul 0 i (by omega)
    have a2 := hmul (i + 1) 8 (by omega)
    refine ⟨c1, by rw [hexp]; simp at a1; omega, ?_⟩
    rw [hexp1]
    have e2 : ((i + 1 : Nat) : Int) * pow8 L = i * pow8 L + pow8 L := by rw [Int.natCast_add, Int.add_mul]; simp
    have e3 : ((8 : Nat) : Int) * pow8 L = 8 * pow8 L := rfl
    omega
  · rw [ee, hm, List.pairwise_flatMap]
    refine ⟨fun i hi => (hone i (List.mem_range.1 hi)).up, ?_⟩
    rw [List.pairwise_iff_getElem]
    intro i j hi hj hij x hx y hy
    simp only [List.length_range] at hi hj
    simp only [List.getElem_range] at hx hy
    obtain ⟨_, _, c3⟩ := (hone i hi).maps x hx
    obtain ⟨_, d2, _⟩ := (hone j hj).maps y hy
    rw [hrg1] at c3
    rw [hrg] at d2
    have a2 := hmul (i + 1) j (by omega)
    have e2 : ((i + 1 : Nat) : Int) * pow8 L = i * pow8 L + pow8 L := by rw [Int.natCast_add, Int.add_mul]; simp
    omega
  · rw [ee, hT, List.mem_flatMap]
    constructor
    · rintro ⟨i, hi, hu⟩
      obtain ⟨q, e, hq, hq8, h1, h2, h3⟩ := ((hone i (List.mem_range.1 hi)).tabs u).1 hu
      refine ⟨q, e, hq, ?_, h1, h2, h3⟩
      rw [pow8_succ, Int.mul_comm, ← Int.ediv_ediv_of_nonneg (by omega), hq8]
      have := List.mem_range.1 hi
      omega
    · rintro ⟨q, e, hq, hq8, h1, h2, h3⟩
      have hi := index_range hq hL
      refine ⟨(index q L).toNat, List.mem_range.2 (by omega), ((hone _ (by omega)).tabs u).2 ⟨q, e, hq, ?_, h1, h2, h3⟩⟩
      exact pre_at hq hL hq8 (by omega)
  · rw [ee, hT]
    unfold List.Nodup
    rw [List.pairwise_flatMap]
    refine ⟨fun i hi => (hone i (List.mem_range.1 hi)).nd, ?_⟩
    rw [List.pairwise_iff_getElem]
    intro i j hi hj hij x hx y hy hxy
    simp only [List.length_range] at hi hj
    simp only [List.getElem_range] at hx hy
    subst hxy
    obtain ⟨q, e, hq, hq8, h1, h2, h3⟩ := ((hone i hi).tabs x).1 hx
    obtain ⟨q', e', hq', hq8', h1', h2', h3'⟩ := ((hone j hj).tabs x).1 hy
    obtain ⟨rfl, hpre⟩ := hw.inj q q' e e' x hq hq' h2 h2' h3 h3'
    have := div_up (show 4 - e ≤ L by omega) hpre
    omega
theorem all_ok (hw : Wf s r gone X) : ∀ L, L ≤ 3 → ∀ {p t : Int}, InP p → tabD s r p (3 - L) = some t → AllOk s r L t (p / pow8 (L + 1)) := by
  intro L
  induction L with
  | zero => intro hL p t hp ht; exact all_step hw hL hp ht fun K hK => by omega
  | succ L ih =>
    intro hL p t hp ht
    refine all_step hw hL hp ht fun K hK => ?_
    obtain rfl : L = K := by omega
    exact ih (by omega)
/-- All that a root's tables map. -/
def allM (s : Ms) (r : Int) : List Mp := mapsOf (eachV s 3 r 0).vs
def allT (s : Ms) (r : Int) : List Int := r :: tabsOf (eachV s 3 r 0).vs
theorem list_link (hw : Wf s r gone X) : (eachV s 3 r 0).code = 0 ∧ Lk s r (allM s r) ∧ (allT s r).Nodup ∧ ∀ t, t ∈ allT s r ↔ InT s r t := by
  have hA : AllOk s r 3 r ((0 : Int) / pow8 (3 + 1)) := all_ok hw 3 (by omega) (show InP 0 from ⟨by omega, by omega⟩) rfl
  have e0 : (0 : Int) / pow8 (3 + 1) = 0 := by decide
  rw [e0] at hA
  have htop : ∀ q, InP q → q / pow8 (3 + 1) = 0 := fun q hq => by
    have h4 : pow8 (3 + 1) = 4096 := rfl
    rw [h4]
    have := hq.1; have := hq.2
    omega
  refine ⟨hA.code, ⟨⟨fun m hm => (hA.maps m hm).1, hA.up⟩, fun q hq => ?_⟩, ?_, fun t => ?_⟩
  · have hl := (list_way s q hq.1 hq.2 3 (by omega) r 0 [] hA.code (by omega) (by decide)).2 (htop q hq)
    have hwy : way s r q = wayA s q 3 r [] := by
      unfold way
      rw [if_pos (by unfold hasB; rw [decide_eq_true hq.1, decide_eq_true hq.2]; rfl)]
    show (mapsOf (eachV s 3 r 0).vs).find? (fun m => over m q) = mapAt s r q
    rw [← List.head?_filter, hl.2.1, ← hwy]
    unfold mapAt
    split <;> rfl
  · unfold allT
    rw [List.nodup_cons]
    refine ⟨fun hm => ?_, hA.nd⟩
    obtain ⟨q, e, hq, _, h1, h2, h3⟩ := (hA.tabs r).1 hm
    have := (hw.inj q q e 0 r hq hq h2 (by omega) h3 rfl).1
    omega
  · unfold allT
    rw [List.mem_cons, hA.tabs t]
    constructor
    · rintro (rfl | ⟨q, e, hq, _, h1, h2, h3⟩)
      · exact ⟨0, 0, ⟨by omega, by omega⟩, by omega, rfl⟩
      · exact ⟨q, e, hq, h2, h3⟩
    · rintro ⟨q, e, hq, h2, h3⟩
      cases e with
      | zero => injection h3 with h3; exact .inl h3.symm
      | succ e => exact .inr ⟨q, e + 1, hq, htop q hq, by omega, h2, h3⟩
end
end Go.Proofs.Ytegkimecdonfgaa
namespace Go.Proofs.Ytegkimecdonfgaa
open Go.RowKit
section
variable (f : Nat) (s : Ms) (gone : List Int) (X : Int → Prop) (hw : Wf s 0 gone X) (R : HProp) (w : World) (h : Has w (frA f s * R))
include hw h
theorem listW : Calls Try.prog 33 #[.pointer (some ⟨f, 0, none⟩), (Value.int .i64) 0] w fun e w' => ∃ A c, e = .returned (.tuple #[.slice A (allM s 0).length c, (Value.int .i64) 0]) ∧ Has w' (mrow (.slice A (allM s 0).length c) (allM s 0) * (frA f s * R)) ∧ Ext w w' := by
  refine (listA f s R w h 0).mono ?_
  have hc := (list_link hw).1
  have e1 : listM (eachV s 3 0 0) = allM s 0 := by unfold listM allM; rw [if_pos hc]
  rintro e w' ⟨A, c, he, h2, x2⟩
  rw [e1] at he h2
  rw [hc] at he
  exact ⟨A, c, he, h2, x2⟩
end
end Go.Proofs.Ytegkimecdonfgaa
namespace Go.Proofs.Ytegkimecdonfgaa
open Go.RowKit
section
variable {s s' : Ms} {r : Int} {gone : List Int} {X : Int → Prop}
/-- Frames that are given back one after the other. -/
theorem giveL_use : ∀ (l : List Int) (s : Ms), s.Inv → (giveL s l).Inv ∧ (giveL s l).n = s.n ∧ (giveL s l).wd = s.wd ∧ ∀ a : Nat, (giveL s l).tk a = true ↔ s.tk a = true ∧ (a : Int) ∉ l := by
  intro l
  induction l with
  | nil => intro s hi; exact ⟨hi, rfl, rfl, fun a => by simp [giveL]⟩
  | cons k l ih =>
    intro s hi
    show (giveL (s.giveS k) l).Inv ∧ _
    cases hk : s.has k with
    | true =>
      have e : s.giveS k = s.give k.toNat := by unfold Ms.giveS; rw [if_pos hk]
      rw [show giveL s (k :: l) = giveL (s.give k.toNat) l by rw [← e]; rfl, e]
      obtain ⟨k0, k1, k2⟩ := Ms.has_iff.1 hk
      obtain ⟨i1, i2, i3, i4⟩ := ih (s.give k.toNat) (hi.give k2)
      refine ⟨i1, i2, i3, fun a => ?_⟩
      rw [i4 a]
      show fput s.tk k.toNat false a = true ∧ _ ↔ _
      by_cases h : a = k.toNat
      · subst h
        rw [fput_self]
        have : ((k.toNat : Nat) : Int) = k := by omega
        rw [this]
        simp
      · rw [fput_ne _ _ h]
        have : (a : Int) ≠ k := by omega
        simp [this]
    | false =>
      have e : s.giveS k = s := by unfold Ms.giveS; rw [if_neg (by rw [hk]; simp)]
      rw [e, show giveL s (k :: l) = giveL s l from (congrArg (fun x => giveL x l) e : giveL (s.giveS k) l = giveL s l)]
      obtain ⟨i1, i2, i3, i4⟩ := ih s hi
      refine ⟨i1, i2, i3, fun a => ?_⟩
      rw [i4 a]
      constructor
      · rintro ⟨a1, a2⟩
        refine ⟨a1, fun hm => ?_⟩
        rcases List.mem_cons.1 hm with h | h
        · have hl := hi.tkl a a1
          have hle := hi.le
          rw [← h] at hk
          rw [Ms.has_nat hi, a1] at hk
          cases hk
        · exact a2 h
      · rintro ⟨a1, a2⟩
        exact ⟨a1, fun hm => a2 (List.mem_cons_of_mem _ hm)⟩
/-- What goes was given back: ways are as they were. -/
theorem give_tab (hw : Wf s r gone X) (hi : s.Inv) {q : Int} (hq : InP q) : ∀ d, d ≤ 4 → tabD (giveL s gone) r q d = tabD s r q d := by
  obtain ⟨_, g2, g3, g4⟩ := giveL_use gone s hi
  intro d
  induction d with
  | zero => intro _; rfl
  | succ d ih =>
    intro hd
    show (tabD (giveL s gone) r q d).bind _ = (tabD s r q d).bind _
    rw [ih (by omega)]
    cases hu : tabD s r q d with
    | none => rfl
    | some u =>
      simp only [Option.bind_some]
      have hh : (giveL s gone).has u = s.has u := by
        rw [Bool.eq_iff_iff, Ms.has_iff, Ms.has_iff, g2, g4]
        constructor
        · rintro ⟨a, b, c, _⟩; exact ⟨a, b, c⟩
        · rintro ⟨a, b, c⟩
          refine ⟨a, b, c, fun hm => ?_⟩
          rw [Int.toNat_of_nonneg a] at hm
          exact hw.gt u hm ⟨q, d, hq, by omega, hu⟩
      unfold goB eOf wordV
      rw [hh, g3]
theorem give_ends (hw : Wf s r gone X) (hi : s.Inv) {q t : Int} {d : Nat} (hq : InP q) (he : Ends s r q d t) : Ends (giveL s gone) r q d t ∧ eOf (giveL s gone) q t (3 - d) = eOf s q t (3 - d) := by
  obtain ⟨_, g2, g3, g4⟩ := giveL_use gone s hi
  have hw' : ∀ i, wordV (giveL s gone) t i = wordV s t i := fun i => by unfold wordV; rw [g3]
  have hh : (giveL s gone).has t = true := by
    obtain ⟨a, b, c⟩ := Ms.has_iff.1 he.use
    refine Ms.has_iff.2 ⟨a, by rw [g2]; exact b, (g4 _).2 ⟨c, fun hm => ?_⟩⟩
    rw [Int.toNat_of_nonneg a] at hm
    exact hw.gt t hm ⟨q, d, hq, he.le, he.tab⟩
  refine ⟨⟨he.le, (give_tab hw hi hq d (by have := he.le; omega)).trans he.tab, hh, by rw [hw']; exact he.dec, ?_⟩, by unfold eOf; rw [hw']⟩
  have := he.no
  unfold goB eOf at this ⊢
  rw [hw', hh]
  rw [he.use] at this
  exact this
theorem give_way (hw : Wf s r gone X) (hi : s.Inv) {q : Int} (hq : InP q) : way (giveL s gone) r q = way s r q := by
  obtain ⟨d, t, he⟩ := hw.ends q hq
  obtain ⟨h1, h2⟩ := give_ends hw hi hq he
  rw [way_ends hq.1 hq.2 h1, way_ends hq.1 hq.2 he, h2]
  have : tabsD (giveL s gone) r q (d + 1) = tabsD s r q (d + 1) := by
    unfold tabsD
    refine List.map_congr_left fun x hx => ?_
    rw [give_tab hw hi hq x (by have := List.mem_range.1 hx; have := he.le; omega)]
  rw [this]
theorem give_inT (hw : Wf s r gone X) (hi : s.Inv) (t : Int) : InT (giveL s gone) r t ↔ InT s r t := by
  constructor
  · rintro ⟨q, d, hq, hd, h⟩; exact ⟨q, d, hq, hd, by rw [← give_tab hw hi hq d (by omega)]; exact h⟩
  · rintro ⟨q, d, hq, hd, h⟩; exact ⟨q, d, hq, hd, by rw [give_tab hw hi hq d (by omega)]; exact h⟩
theorem Wf.give (hw : Wf s r gone X) (hi : s.Inv) : Wf (giveL s gone) r [] X := by
  obtain ⟨_, g2, g3, g4⟩ := giveL_use gone s hi
  refine ⟨fun p hp => ?_, fun p q d e t hp hq hd he h1 h2 => ?_, fun p d t hp hd h => ?_, fun k => ?_, List.nodup_nil, fun g hg => (by cases hg), fun g hg => (by cases hg)⟩
  · obtain ⟨d, t, he⟩ := hw.ends p hp
    exact ⟨d, t, (give_ends hw hi hp he).1⟩
  · rw [give_tab hw hi hp d (by omega)] at h1
    rw [give_tab hw hi hq e (by omega)] at h2
    exact hw.inj p q d e t hp hq hd he h1 h2
  · rw [give_tab hw hi hp (d + 1) (by omega)] at h
    have := hw.full p d t hp hd h
    unfold wordV at this ⊢
    rw [g3]
    exact this
  · rw [g4 k, hw.use k, give_inT hw hi]
    constructor
    · rintro ⟨a | a, b⟩
      · exact .inl a
      · exact absurd a b
    · rintro (a | a)
      · exact ⟨.inl a, fun hm => hw.gt _ hm a⟩
      · cases a
end
end Go.Proofs.Ytegkimecdonfgaa
namespace Go.Proofs.Ytegkimecdonfgaa
open Go.RowKit
theorem Bk.find_iff {L : List Mp} (h : Bk.Ok L) {q : Int} {m : Mp} : Bk.find L q = some m ↔ m ∈ L ∧ over m q = true := by
  constructor
  · exact Bk.find_mem
  · rintro ⟨hm, ho⟩
    obtain ⟨k, hk, rfl⟩ := List.getElem_of_mem hm
    exact (Bk.over_at h hk ho).2
section
variable {s : Ms} {r : Int} {gone : List Int} {X : Int → Prop} {L : List Mp}
theorem lk_code (hw : Wf s r gone (fun _ => False)) (hL : Lk s r L) (p : Int) : findC s r p = Bk.dropC L p ∧ findM s r p = (Bk.dropR L p).getD Mp.zero := by
  unfold Bk.dropC Bk.dropR
  by_cases hp : InP p
  · have hB : hasB p = true := by unfold hasB; rw [decide_eq_true hp.1, decide_eq_true hp.2]; rfl
    rw [if_pos hB, if_pos hB, hL.same p hp]
    exact hw.find hp
  · have hB : ¬ hasB p = true := by
      unfold hasB
      rw [Bool.and_eq_true, decide_eq_true_eq, decide_eq_true_eq]
      exact hp
    rw [if_neg hB, if_neg hB]
    have := find_out (s := s) (r := r) hp
    have hc : findC s r p = 1 := by unfold findC; rw [this]; rfl
    refine ⟨hc, ?_⟩
    unfold findM
    rw [if_neg (by rw [hc]; decide)]
    rfl
theorem lk_found (hw : Wf s r gone (fun _ => False)) (hL : Lk s r L) {p : Int} (hf : findC s r p = 0) : InP p ∧ hasB p = true ∧ Bk.find L p = some (findM s r p) ∧ findM s r p ∈ L ∧ over (findM s r p) p = true := by
  have hp := find_zero hf
  have hB : hasB p = true := by unfold hasB; rw [decide_eq_true hp.1, decide_eq_true hp.2]; rfl
  obtain ⟨d, t, he, hl, hwe, hm, h3, ho⟩ := hw.found hf
  have := (hL.same p hp).trans hm
  exact ⟨hp, hB, this, Bk.find_mem this⟩
theorem lk_rem (hw : Wf s r gone (fun _ => False)) (hi : s.Inv) (hL : Lk s r L) {p : Int} (hf : findC s r p = 0) : Lk (remS s r p) r (Bk.dropL L p) := by
  obtain ⟨hp, hB, h1, h2, h3⟩ := lk_found hw hL hf
  have hd : Bk.dropL L p = Bk.del L p := by unfold Bk.dropL; rw [if_pos hB]
  have hok : Bk.Ok (Bk.del L p) := hL.ok.del p
  rw [hd]
  obtain ⟨_, _, _, _, _, w6⟩ := rem_ok hw hi hf
  generalize findM s r p = M at *
  refine ⟨hok, fun q hq => ?_⟩
  rw [(w6 q hq).1, ← hL.same q hq]
  refine Option.ext fun m => ?_
  have one : ∀ m, m ∈ L → over m p = true → m = M := fun m hm ho => by
    have := (Bk.find_iff hL.ok).2 ⟨hm, ho⟩
    rw [h1] at this
    injection this with this
    exact this.symm
  rw [Bk.find_iff hok]
  unfold Bk.del
  rw [List.mem_filter]
  by_cases ho : over M q = true
  · rw [if_pos ho]
    constructor
    · rintro ⟨⟨hm, hn⟩, hq'⟩
      have e1 := (Bk.find_iff hL.ok).2 ⟨hm, hq'⟩
      have e2 := (Bk.find_iff hL.ok).2 ⟨h2, ho⟩
      rw [e1] at e2
      injection e2 with e2
      subst e2
      rw [h3] at hn
      cases hn
    · intro h; cases h
  · rw [if_neg ho, Bk.find_iff hL.ok]
    constructor
    · rintro ⟨⟨hm, _⟩, hq'⟩; exact ⟨hm, hq'⟩
    · rintro ⟨hm, hq'⟩
      refine ⟨⟨hm, ?_⟩, hq'⟩
      cases hov : over m p with
      | false => rfl
      | true =>
        rw [one m hm hov] at hq'
        exact absurd hq' ho
end
end Go.Proofs.Ytegkimecdonfgaa
namespace Go.Proofs.Ytegkimecdonfgaa
open Go.RowKit
/-- A walk stands in a table on its way. -/
def OnTree (s : Ms) (r : Int) (k : Ck) : Prop := ∃ d : Nat, d ≤ 3 ∧ k.level = ((3 - d : Nat) : Int) ∧ tabD s r k.a.page d = some k.t
/-- A walk stands in a table that goes, and nothing is mapped at its page. -/
def Lost (s : Ms) (r : Int) (gone : List Int) (k : Ck) : Prop := k.t ∈ gone ∧ mapAt s r k.a.page = none
/-- Marks alone may be others. -/
structure Marked (s s' : Ms) (r : Int) : Prop where
  n : s'.n = s.n
  tk : ∀ u, s'.tk u = s.tk u
  fr : s'.frees = s.frees
  tab : ∀ q, InP q → ∀ d, d ≤ 4 → tabD s' r q d = tabD s r q d
  map : ∀ q, InP q → mapAt s' r q = mapAt s r q
  lev : ∀ q, InP q → (way s' r q).lev = (way s r q).lev
  used : ∀ q, InP q → (way s r q).e.used = true → (way s' r q).e.used = true
  dirty : ∀ q, InP q → (way s r q).e.dirty = true → (way s' r q).e.dirty = true
theorem Marked.refl (s : Ms) (r : Int) : Marked s s r := ⟨rfl, fun _ => rfl, rfl, fun _ _ _ _ => rfl, fun _ _ => rfl, fun _ _ => rfl, fun _ _ h => h, fun _ _ h => h⟩
/-- A line that is kept says what is mapped. -/
structure Kept (s : Ms) (r : Int) (x : Ln) : Prop where
  inP : InP x.m.page
  map : mapAt s r x.m.page = some x.m
  used : (way s r x.m.page).e.used = true
  dirty : x.dirty = true → (way s r x.m.page).e.dirty = true
theorem Kept.mark {s s' : Ms} {r : Int} {x : Ln} (h : Kept s r x) (m : Marked s s' r) : Kept s' r x :=
  ⟨h.inP, (m.map _ h.inP).trans h.map, m.used _ h.inP h.used, fun d => m.dirty _ h.inP (h.dirty d)⟩
theorem OnTree.mark {s s' : Ms} {r : Int} {k : Ck} (hp : InP k.a.page) (h : OnTree s r k) (m : Marked s s' r) : OnTree s' r k := by
  obtain ⟨d, hd, hl, ht⟩ := h
  exact ⟨d, hd, hl, (m.tab _ hp d (by omega)).trans ht⟩
theorem Lost.mark {s s' : Ms} {r : Int} {gone : List Int} {k : Ck} (hp : InP k.a.page) (h : Lost s r gone k) (m : Marked s s' r) : Lost s' r gone k := ⟨h.1, (m.map _ hp).trans h.2⟩
section
variable {s : Ms} {r : Int} {gone : List Int} {X : Int → Prop}
/-- What marks do to a tree. -/
theorem mark_tree (hw : Wf s r gone (fun _ => False)) (hi : s.Inv) {p t : Int} {d : Nat} (hp : InP p) (he : Ends s r p d t) (hl : (eOf s p t (3 - d)).leaf = true) (a : Ac) :
    Wf (putAt s p t d (encW (markE (eOf s p t (3 - d)) a) (3 - d : Nat))) r gone (fun _ => False) ∧ (putAt s p t d (encW (markE (eOf s p t (3 - d)) a) (3 - d : Nat))).Inv ∧
      Marked s (putAt s p t d (encW (markE (eOf s p t (3 - d)) a) (3 - d : Nat))) r ∧ (way (putAt s p t d (encW (markE (eOf s p t (3 - d)) a) (3 - d : Nat))) r p).e = markE (eOf s p t (3 - d)) a := by
  have hef := (enc_dec he.dec).1
  have hef : entFault (eOf s p t (3 - d)) ((3 - d : Nat) : Int) = 0 := hef
  obtain ⟨hf', hl'⟩ := mark_ok a hef hl
  obtain ⟨w1, w2, w3⟩ := leaf_ok hw hi hp he hf' hl'
  obtain ⟨k1, k2, _⟩ := dec_enc hf'
  have hv : stopW (encW (markE (eOf s p t (3 - d)) a) (3 - d : Nat)) (3 - d) := ⟨k1, by rw [k2, hl']; simp⟩
  refine ⟨w1, w2, ⟨rfl, fun _ => rfl, rfl, fun q hq e hle => put_tab hw hp he.le he.tab he.no hv hq e hle, fun q hq => ?_, fun q hq => ?_, fun q hq => ?_, fun q hq => ?_⟩, ?_⟩
  · have := w3 q hq
    split at this
    · unfold mapAt
      rw [this.1, this.2]
      dsimp only
      rw [hl', hl, leafMap_mark a hef hl]
    · exact mapAt_way this
  · have := w3 q hq
    split at this
    · rw [this.1, this.2]
    · rw [this]
  · have := w3 q hq
    split at this
    · rw [this.1, this.2]
      intro _; rfl
    · rw [this]; exact id
  · have := w3 q hq
    split at this
    · rw [this.1, this.2]
      dsimp only
      intro h
      unfold markE
      dsimp only
      rw [h]; rfl
    · rw [this]; exact id
  · have := w3 p hp
    rw [if_pos rfl] at this
    rw [this.1]
end
section
variable {s : Ms} {r : Int} {gone : List Int} {X : Int → Prop}
theorem Wf.perm {g : List Int} (hw : Wf s r gone X) (h : ∀ t, t ∈ g ↔ t ∈ gone) (nd : g.Nodup) : Wf s r g X :=
  ⟨hw.ends, hw.inj, hw.full, fun k => by rw [hw.use k, h], nd, fun t ht => hw.gz t ((h t).1 ht), fun t ht => hw.gt t ((h t).1 ht)⟩
end
end Go.Proofs.Ytegkimecdonfgaa
namespace Go.Proofs.Ytegkimecdonfgaa
open Go.RowKit
theorem or_nat (W : Nat) (hz : W / 32 % 4 = 0) : W ||| 96 = W + 96 := by
  have hb : W % 32 < 2 ^ 5 := by omega
  have hb7 : W % 32 < 2 ^ 7 := by omega
  have e1 : 2 ^ 7 * (W / 128) + W % 32 = W := by omega
  have e2 : 2 ^ 5 * 3 + W % 32 = 96 + W % 32 := by omega
  have hc : 2 ^ 5 * 3 + W % 32 < 2 ^ 7 := by omega
  have o1 := Nat.two_pow_add_eq_or_of_lt hb7 (W / 128)
  have o2 := Nat.two_pow_add_eq_or_of_lt hb 3
  have o3 := Nat.two_pow_add_eq_or_of_lt hc (W / 128)
  have e3 : 2 ^ 7 * (W / 128) + (2 ^ 5 * 3 + W % 32) = W + 96 := by omega
  rw [e1] at o1
  rw [e3, o2] at o3
  rw [o3]
  conv => lhs; rw [o1]
  rw [Nat.or_assoc, Nat.or_comm (W % 32)]
theorem or_marks (W : Nat) (h : W < 18446744073709551616) (hs : W + 96 < 18446744073709551616) (hz : W / 32 % 4 = 0) : bits .or .u64 (W : Int) 96 = ((W + 96 : Nat) : Int) := by
  show IntKind.u64.wrap ((BitVec.ofInt 64 (W : Int) ||| BitVec.ofInt 64 ((96 : Nat) : Int)).toNat : Int) = _
  rw [BitVec.toNat_or, ofInt64 W h, ofInt64 96 (by decide), or_nat W hz]
  exact wrapU _ hs
theorem enc_or {e : En} {L p : Int} {us : Bool} (hf : entFault e L = 0) (hl : e.leaf = true) (hu : e.used = false) (hd : e.dirty = false) : bits .or .u64 (encW e L) 96 = encW (markE e ⟨p, 1, us⟩) L := by
  have ht : e.there = true := by
    cases h : e.there with
    | true => rfl
    | false => rw [entFault_not hf h] at hl; cases hl
  obtain ⟨hf', hl'⟩ := mark_ok ⟨p, 1, us⟩ hf hl
  have hk := entOk_of hf ht
  have h1 : encW e L = wordE e L := if_pos ⟨hf, ht⟩
  have h2 : encW (markE e ⟨p, 1, us⟩) L = wordE e L + 96 := by
    have : encW (markE e ⟨p, 1, us⟩) L = wordE (markE e ⟨p, 1, us⟩) L := if_pos ⟨hf', ht⟩
    rw [this]
    unfold wordE markE
    dsimp only
    rw [hu, hd]
    simp only [b2i]
    simp
    omega
  rw [h1, h2]
  obtain ⟨_, w0, w1⟩ := wordE_ne hk
  obtain ⟨W, hW⟩ := Int.eq_ofNat_of_zero_le w0
  rw [hW] at w1 ⊢
  have hz : W / 32 % 4 = 0 := by
    have h3 : wordE e L = e.frame * 4096 + e.rights * 2 + 1 + b2i (e.leaf && (L != 0)) 128 := by
      unfold wordE
      rw [hu, hd]
      simp [b2i]
    have hb : b2i (e.leaf && (L != 0)) 128 = 0 ∨ b2i (e.leaf && (L != 0)) 128 = 128 := by unfold b2i; split <;> simp
    rw [hW] at h3
    have := hk.r0; have := hk.r7; have := hk.f0
    rcases hb with hb | hb <;> rw [hb] at h3 <;> omega
  rw [or_marks W (by omega) (by omega) hz]
  omega
/-! ### Counting -/
theorem le_nodup : ∀ (n : Nat) (l : List Nat), l.Nodup → (∀ k, k < n → k ∈ l) → n ≤ l.length
  | 0, _, _, _ => Nat.zero_le _
  | n + 1, l, nd, h => by
    have hm := h n (by omega)
    have h1 := le_nodup n (l.erase n) (nd.erase n) (fun k hk => (List.Nodup.mem_erase_iff nd).2 ⟨by omega, h k (by omega)⟩)
    rw [List.length_erase_of_mem hm] at h1
    have := List.length_pos_of_mem hm
    omega
section
variable {s : Ms} {gone : List Int} {X : Int → Prop}
theorem tabs_nat (hw : Wf s 0 gone X) {t : Int} (h : InT s 0 t) : 0 ≤ t ∧ t < s.n ∧ s.tk t.toNat = true := by
  obtain ⟨p, d, hp, hd, ht⟩ := h
  exact hw.nat hp hd ht
/-- So many frames are of the root's tables, go, or are free. -/
theorem tabs_count (hw : Wf s 0 gone X) (hi : s.Inv) : (allT s 0).length + gone.length + s.frees.length = s.n := by
  obtain ⟨_, _, nd, hm⟩ := list_link hw
  have h0 : ∀ t ∈ allT s 0, 0 ≤ t ∧ t < s.n ∧ s.tk t.toNat = true := fun t ht => tabs_nat hw ((hm t).1 ht)
  have hg : ∀ t ∈ gone, 0 ≤ t ∧ t < s.n ∧ s.tk t.toNat = true := fun t ht => by
    have a := (hw.gz t ht).1
    have b : s.tk t.toNat = true := (hw.use _).2 (.inr (by rw [Int.toNat_of_nonneg a]; exact ht))
    have := hi.tkl _ b
    have := hi.le
    exact ⟨a, by omega, b⟩
  have inj : ∀ l : List Int, l.Nodup → (∀ t ∈ l, 0 ≤ t) → (l.map Int.toNat).Nodup := by
    intro l
    induction l with
    | nil => intro _ _; exact List.nodup_nil
    | cons x l ih =>
      intro nd h
      rw [List.nodup_cons] at nd
      rw [List.map_cons, List.nodup_cons]
      refine ⟨fun hx => ?_, ih nd.2 fun t ht => h t (List.mem_cons_of_mem _ ht)⟩
      obtain ⟨y, hy, he⟩ := List.mem_map.1 hx
      have h1 := h x (List.mem_cons_self ..)
      have h2 := h y (List.mem_cons_of_mem _ hy)
      have : y = x := by omega
      exact nd.1 (this ▸ hy)
  have hnd : ((allT s 0).map Int.toNat ++ (gone.map Int.toNat ++ s.frees)).Nodup := by
    rw [List.nodup_append, List.nodup_append]
    refine ⟨inj _ nd fun t ht => (h0 t ht).1, ⟨inj _ hw.nd fun t ht => (hg t ht).1, Ms.frees_nodup hi, ?_⟩, ?_⟩
    · intro a ha b hb
      obtain ⟨t, ht, rfl⟩ := List.mem_map.1 ha
      rintro rfl
      have := ((Ms.frees_mem hi _).1 hb).2
      rw [(hg t ht).2.2] at this; cases this
    · intro a ha b hb
      obtain ⟨t, ht, rfl⟩ := List.mem_map.1 ha
      rintro rfl
      rcases List.mem_append.1 hb with hb | hb
      · obtain ⟨u, hu, he⟩ := List.mem_map.1 hb
        have h1 := (h0 t ht).1
        have h2 := (hg u hu).1
        have : u = t := by omega
        subst this
        exact hw.gt u hu ((hm u).1 ht)
      · have := ((Ms.frees_mem hi _).1 hb).2
        rw [(h0 t ht).2.2] at this; cases this
  have hall : ∀ k, k ∈ (allT s 0).map Int.toNat ++ (gone.map Int.toNat ++ s.frees) ↔ k < s.n := by
    intro k
    rw [List.mem_append, List.mem_append]
    constructor
    · rintro (h | h | h)
      · obtain ⟨t, ht, rfl⟩ := List.mem_map.1 h
        have := h0 t ht
        omega
      · obtain ⟨t, ht, rfl⟩ := List.mem_map.1 h
        have := hg t ht
        omega
      · exact ((Ms.frees_mem hi _).1 h).1
    · intro hk
      cases ht : s.tk k with
      | false => exact .inr (.inr ((Ms.frees_mem hi _).2 ⟨hk, ht⟩))
      | true =>
        rcases (hw.use k).1 ht with h | h
        · exact .inl (List.mem_map.2 ⟨k, (hm _).2 h, by simp⟩)
        · exact .inr (.inl (List.mem_map.2 ⟨k, h, by simp⟩))
  have h1 := nodup_le s.n _ hnd fun x hx => (hall x).1 hx
  have h2 := le_nodup s.n _ hnd fun k hk => (hall k).2 hk
  rw [List.length_append, List.length_append, List.length_map, List.length_map] at h1 h2
  omega
end
/-! ### The first memory -/
theorem first_eq {n : Nat} (h : 1 ≤ n) : (Ms.new n).takeS = { n := n, tk := fput (fun _ => false) 0 true, wd := fun a _ => if a = 0 then 0 else 0, next := 1, back := [] } := by
  have ht : (Ms.new n).top = some 0 := by
    show (if 0 < n then some 0 else none) = some 0
    rw [if_pos (by omega)]
  unfold Ms.takeS
  rw [ht]
  rfl
theorem first_wf {n : Nat} (h : 1 ≤ n) : Wf (Ms.new n).takeS 0 [] (fun _ => False) := by
  rw [first_eq h]
  generalize hs : ({ n := n, tk := fput (fun _ => false) 0 true, wd := fun a _ => if a = 0 then 0 else 0, next := 1, back := [] } : Ms) = s
  have hz : ∀ t i, wordV s t i = 0 := fun t i => by
    subst hs
    show (if t.toNat = 0 then (0 : Int) else 0) = 0
    split <;> rfl
  have hn : s.n = n := by subst hs; rfl
  have htk : ∀ k : Nat, s.tk k = true ↔ k = 0 := fun k => by
    subst hs
    show fput (fun _ => false) 0 true k = true ↔ k = 0
    unfold fput
    split <;> simp_all
  have hhas : s.has 0 = true := Ms.has_iff.2 ⟨by omega, by omega, (htk _).2 rfl⟩
  have hno : ∀ p d, d ≤ 3 → tabD s 0 p (d + 1) = none := by
    intro p d hd
    cases hh : tabD s 0 p d with
    | none => exact tabD_none_mono hh _ (by omega)
    | some u => exact tabD_none hh (goB_zero (by omega) (hz _ _))
  have h0 : ∀ p d t, d ≤ 3 → tabD s 0 p d = some t → d = 0 ∧ t = 0 := by
    intro p d t hd ht
    cases d with
    | zero => injection ht with ht; exact ⟨rfl, ht.symm⟩
    | succ d => rw [hno p d (by omega)] at ht; cases ht
  refine ⟨fun p hp => ⟨0, 0, by omega, rfl, hhas, ?_, goB_zero (by omega) (hz _ _)⟩, fun p q d e t hp hq hd he h1 h2 => ?_, fun p d t hp hd ht => ?_, fun k => ?_, List.nodup_nil, fun g hg => (by cases hg), fun g hg => (by cases hg)⟩
  · rw [hz]; exact (dec_zero (by omega)).1
  · obtain ⟨rfl, _⟩ := h0 p d t hd h1
    obtain ⟨rfl, _⟩ := h0 q e t he h2
    exact ⟨rfl, div_top hp hq⟩
  · rw [hno p d (by omega)] at ht; cases ht
  · rw [htk]
    constructor
    · rintro rfl
      exact .inl ⟨0, 0, ⟨by omega, by omega⟩, by omega, rfl⟩
    · rintro (⟨p, d, _, hd, ht⟩ | h)
      · have := (h0 p d _ hd ht).2
        omega
      · cases h
theorem first_mem {n : Int} (h : 1 ≤ n) : memS n 1 [] = (Ms.new n.toNat).takeS := by
  unfold memS
  have : min (1 : Int).toNat n.toNat = 1 := by
    have : (1 : Int).toNat = 1 := rfl
    omega
  rw [this]
  rfl
/-! ### What goes, and is given back -/
def remGive (s : Ms) (p : Int) : Ms := giveL (remS s 0 p) (remG s 0 p)
section
variable {s : Ms} {L : List Mp}
theorem rem_give (hw : Wf s 0 [] (fun _ => False)) (hi : s.Inv) {p : Int} (hf : findC s 0 p = 0) :
    Wf (remGive s p) 0 [] (fun _ => False) ∧ (remGive s p).Inv ∧ (remGive s p).n = s.n ∧ ∀ q, InP q → way (remGive s p) 0 q = way (remS s 0 p) 0 q := by
  obtain ⟨w1, w2, w3, _⟩ := rem_ok hw hi hf
  have hgn : (remG s 0 p).Nodup := by
    have := w1.nd
    rw [List.append_nil] at this
    exact (List.pairwise_reverse.1 this).imp fun h => h.symm
  have hw' : Wf (remS s 0 p) 0 (remG s 0 p) (fun _ => False) := w1.perm (fun t => by simp) hgn
  obtain ⟨g1, g2, _⟩ := giveL_use (remG s 0 p) (remS s 0 p) w2
  exact ⟨hw'.give w2, g1, g2.trans w3, fun q hq => give_way hw' w2 hq⟩
theorem rem_none {p : Int} (hf : findC s 0 p ≠ 0) : remGive s p = s ∧ remG s 0 p = [] ∧ remS s 0 p = s := by
  unfold remGive remS remG
  rw [if_neg hf, if_neg hf]
  exact ⟨rfl, rfl, rfl⟩
theorem lk_give (hw : Wf s 0 [] (fun _ => False)) (hi : s.Inv) (hL : Lk s 0 L) {p : Int} (hf : findC s 0 p = 0) : Lk (remGive s p) 0 (Bk.dropL L p) := by
  have h := lk_rem hw hi hL hf
  obtain ⟨_, _, _, w4⟩ := rem_give hw hi hf
  exact ⟨h.ok, fun q hq => (h.same q hq).trans (mapAt_way (w4 q hq)).symm⟩
theorem drop_head {x : Mp} (h : Bk.Ok (x :: L)) : Bk.dropL (x :: L) x.page = L ∧ Bk.dropC (x :: L) x.page = 0 := by
  have hx := h.chk x (List.mem_cons_self ..)
  have hp := hx.inP
  have hB : hasB x.page = true := by unfold hasB; rw [decide_eq_true hp.1, decide_eq_true hp.2]; rfl
  have ho : over x x.page = true := over_iff.2 ⟨by omega, by have := hx.sp; omega⟩
  unfold Bk.dropL Bk.dropC
  rw [if_pos hB, if_pos hB]
  constructor
  · unfold Bk.del
    rw [List.filter_cons, ho]
    simp only [Bool.not_true, Bool.false_eq_true, if_false]
    refine List.filter_eq_self.2 fun y hy => ?_
    have h1 := (List.pairwise_cons.1 h.up).1 y hy
    have := hx.sp
    have : over y x.page = false := over_false.2 (.inl (by omega))
    rw [this]; rfl
  · unfold Bk.find
    rw [List.find?_cons_of_pos (by exact ho)]
    rfl
/-- With nothing mapped the root is all there is. -/
theorem lk_empty (hw : Wf s 0 [] (fun _ => False)) (hi : s.Inv) (hL : Lk s 0 []) : allT s 0 = [0] ∧ s.frees.length + 1 = s.n := by
  obtain ⟨_, _, nd, hm⟩ := list_link hw
  have hone : ∀ t, InT s 0 t → t = 0 := by
    rintro t ⟨p, d, hp, hd, ht⟩
    cases d with
    | zero => injection ht with ht; exact ht.symm
    | succ d =>
      obtain ⟨q, hq, _, hne⟩ := hw.some_map (2 - d) d (by omega) hp ht
      rw [← hL.same q hq] at hne
      exact absurd rfl hne
  have ha : allT s 0 = [0] := by
    have e : allT s 0 = 0 :: tabsOf (eachV s 3 0 0).vs := rfl
    rw [e] at nd hm ⊢
    cases hr : tabsOf (eachV s 3 0 0).vs with
    | nil => rfl
    | cons y l =>
      exfalso
      rw [hr] at nd hm
      have := hone y ((hm y).1 (by simp))
      subst this
      simp at nd
  refine ⟨ha, ?_⟩
  have := tabs_count hw hi
  rw [ha] at this
  simp at this
  omega
end
/-! ### What is marked -/
structure MkAt (s : Ms) (p : Int) : Prop where
  inP : InP p
  map : (mapAt s 0 p).isSome = true
  used : (way s 0 p).e.used = true
  dirty : (way s 0 p).e.dirty = true
structure TK (s : Ms) (mk : Int) : Prop where
  ok : s.Ok
  wf : Wf s 0 [] (fun _ => False)
  at_ : mk = -1 ∨ MkAt s mk
section
variable {s s' : Ms} {mk p : Int}
theorem MkAt.way (h : MkAt s p) (e : Go.Proofs.Ytegkimecdonfgaa.way s' 0 p = Go.Proofs.Ytegkimecdonfgaa.way s 0 p) : MkAt s' p := ⟨h.inP, by rw [mapAt_way e]; exact h.map, by rw [e]; exact h.used, by rw [e]; exact h.dirty⟩
theorem MkAt.ne (h : MkAt s p) : mapAt s 0 p ≠ none := fun e => by have := h.map; rw [e] at this; cases this
theorem MkAt.found (h : MkAt s p) (hw : Wf s 0 [] (fun _ => False)) : findC s 0 p = 0 ∧ (findE s 0 p).used = true ∧ (findE s 0 p).dirty = true := by
  have hf := (hw.find h.inP).1
  rw [if_pos h.map] at hf
  unfold findE
  rw [if_pos hf]
  exact ⟨hf, h.used, h.dirty⟩
theorem TK.first {n : Int} (h : 1 ≤ n) (h1 : n ≤ 128) : TK (memS n 1 []) (-1) := ⟨memS_ok (by omega) h1 (fun x hx => by cases hx), by rw [first_mem h]; exact first_wf (by omega), .inl rfl⟩
theorem TK.ins (h : TK s mk) (x : Mp) : TK (insS s 0 x) mk := by
  obtain ⟨w1, w2, w3, w4⟩ := ins_ok h.wf h.ok.inv h.ok.small x
  refine ⟨⟨w2, by rw [w3]; exact h.ok.small⟩, w1, h.at_.imp id fun m => m.way ((w4 _ m.inP).2.1 m.ne)⟩
theorem TK.rem (h : TK s mk) {p : Int} (hf : findC s 0 p = 0) {mk' : Int} (hm : mk' = -1 ∨ (mk' = mk ∧ over (findM s 0 p) mk = false)) : TK (remGive s p) mk' := by
  obtain ⟨w1, w2, w3, w4⟩ := rem_give h.wf h.ok.inv hf
  obtain ⟨_, _, _, _, _, v6⟩ := rem_ok h.wf h.ok.inv hf
  refine ⟨⟨w2, by rw [w3]; exact h.ok.small⟩, w1, ?_⟩
  rcases hm with hm | ⟨rfl, ho⟩
  · exact .inl hm
  · exact h.at_.imp id fun m => m.way ((w4 _ m.inP).trans ((v6 _ m.inP).2 ho m.ne))
theorem TK.pr (h : TK s mk) (p ri : Int) : TK (prS s 0 p ri) mk := by
  by_cases hf : prC s 0 p ri = 0
  · obtain ⟨w1, w2, w3, _, _, w6⟩ := pr_ok h.wf h.ok.inv hf
    refine ⟨⟨w2, by rw [w3]; exact h.ok.small⟩, w1, h.at_.imp id fun m => ?_⟩
    by_cases ho : over (findM s 0 p) mk = true
    · obtain ⟨_, a2, a3⟩ := (w6 _ m.inP).1 ho
      exact ⟨m.inP, by rw [a2]; rfl, by rw [a3]; exact m.used, by rw [a3]; exact m.dirty⟩
    · exact m.way ((w6 _ m.inP).2 (by simpa using ho))
  · have e : prS s 0 p ri = s := by unfold prS; rw [if_neg hf]
    rw [e]; exact h
/-- A mapping is new: its leaf is marked. -/
theorem TK.mark (h : TK s mk) {x : Mp} (hc : insC s 0 x = 0) : ∃ (d : Nat) (t : Int), d ≤ 3 ∧ (way (insS s 0 x) 0 x.page).code = 0 ∧ (way (insS s 0 x) 0 x.page).tabs.length = d + 1 ∧ (way (insS s 0 x) 0 x.page).tabs[d]? = some t ∧
    (insS s 0 x).hasW t (index x.page (3 - (d : Int))) = true ∧ InP x.page ∧
    TK (storeS (insS s 0 x) t (index x.page (3 - (d : Int))) (bits .or .u64 (loadV (insS s 0 x) t (index x.page (3 - (d : Int)))) 96)) x.page := by
  obtain ⟨w1, w2, w3, w4⟩ := ins_ok h.wf h.ok.inv h.ok.small x
  have hk : check x = 0 := by
    unfold insC at hc
    by_cases hk : check x = 0
    · exact hk
    · rw [if_pos hk] at hc; exact absurd hc hk
  have hx := mapOk_of hk
  have hp := hx.inP
  have ho : over x x.page = true := over_iff.2 ⟨by omega, by have := hx.sp; omega⟩
  have he := ((w4 _ hp).2.2 ⟨hc, ho⟩).2
  have hmap := (w4 _ hp).1
  rw [if_pos ⟨hc, ho⟩] at hmap
  obtain ⟨d, t, hE⟩ := w1.ends _ hp
  have hle := hE.le
  have hwe := way_ends hp.1 hp.2 hE
  rw [hwe] at he
  have he : eOf (insS s 0 x) x.page t (3 - d) = leafE x := he
  have hl : (eOf (insS s 0 x) x.page t (3 - d)).leaf = true := by rw [he]; rfl
  have hi3 : (3 - (d : Int)) = ((3 - d : Nat) : Int) := by omega
  refine ⟨d, t, ?_⟩
  rw [hi3]
  have hix := index_range hp (show 3 - d ≤ 3 by omega)
  have hhas := hE.use
  have hW : (insS s 0 x).hasW t (index x.page ((3 - d : Nat) : Int)) = true := by
    unfold Ms.hasW
    rw [hhas, decide_eq_true hix.1, decide_eq_true hix.2]; rfl
  have hef : entFault (eOf (insS s 0 x) x.page t (3 - d)) ((3 - d : Nat) : Int) = 0 := (enc_dec hE.dec).1
  have hld : loadV (insS s 0 x) t (index x.page ((3 - d : Nat) : Int)) = encW (eOf (insS s 0 x) x.page t (3 - d)) ((3 - d : Nat) : Int) := by
    unfold loadV
    rw [if_pos hW]
    exact (enc_dec hE.dec).2.symm
  have hor : bits .or .u64 (loadV (insS s 0 x) t (index x.page ((3 - d : Nat) : Int))) 96 = encW (markE (eOf (insS s 0 x) x.page t (3 - d)) ⟨x.page, 1, false⟩) ((3 - d : Nat) : Int) := by
    rw [hld]
    exact enc_or hef hl (by rw [he]; rfl) (by rw [he]; rfl)
  obtain ⟨m1, m2, m3, m4⟩ := mark_tree w1 w2 hp hE hl ⟨x.page, 1, false⟩
  refine ⟨hle, by rw [hwe], by rw [hwe]; exact tabsD_len _ _ _ _, ?_, hW, hp, ?_⟩
  · rw [hwe]
    show (tabsD _ _ _ _)[d]? = _
    unfold tabsD
    rw [List.getElem?_map, List.getElem?_range (by omega)]
    simp [hE.tab]
  · have es : storeS (insS s 0 x) t (index x.page ((3 - d : Nat) : Int)) (bits .or .u64 (loadV (insS s 0 x) t (index x.page ((3 - d : Nat) : Int))) 96) = putAt (insS s 0 x) x.page t d (encW (markE (eOf (insS s 0 x) x.page t (3 - d)) ⟨x.page, 1, false⟩) ((3 - d : Nat) : Int)) := by
      unfold storeS
      rw [if_pos hW, hor]
    rw [es]
    refine ⟨⟨m2, ?_⟩, m1, .inr ⟨hp, ?_, ?_, ?_⟩⟩
    · rw [m3.n, w3]; exact h.ok.small
    · rw [m3.map _ hp, hmap]; rfl
    · rw [m4]; rfl
    · rw [m4, he]; rfl
end
end Go.Proofs.Ytegkimecdonfgaa
namespace Go.Proofs.Ytegkimecdonfgaa
open Go.RowKit
set_option maxRecDepth 100000
theorem or_u64 (a b : Int) : u64 (bits .or .u64 a b) := by
  unfold bits
  show u64 (IntKind.u64.wrap _)
  rw [IntKind.wrap_u64]
  unfold u64
  omega
theorem findM_i64 {s : Ms} (hw : Wf s 0 [] (fun _ => False)) (p : Int) : i64 (findM s 0 p).page := by
  by_cases hf : findC s 0 p = 0
  · obtain ⟨d, t, he, hl, hwe, hm, h3, ho⟩ := hw.found hf
    have hi := (hw.self (find_zero hf) hm).2.inP
    unfold i64
    have := hi.1; have := hi.2
    omega
  · unfold findM
    rw [if_neg hf]
    show i64 0
    unfold i64; omega
set_option maxHeartbeats 8000000 in
theorem tableKeeps_walk (N : Int) (B : Option Addr) (m d : Nat) (L : List Stp) (A : Int) (w : World) (_ : i64 N) (h2 : Arr w B m 9 (L.map Stp.cells)) (hok2 : ∀ x ∈ L, x.ok) (_ : i64 A) :
    Calls Try.prog 5 #[(Value.int .i64) N, .slice B m d, (Value.int .i64) A] w (Pure (Value.bool true) w) := by
  have hm2 := h2.2.1
  have hB := Lib.hid h2
  have hL := Lib.hid (show L.length = m by simpa using h2.1)
  clear h2
  have h0 := has_old w
  have x0 := Ext.refl w
  have HB := Lib.hid (fun w => tableBegun_any w)
  by_cases hN0 : N < 1
  · go_enter Try.func5, Try.ntmps5
    go_wp2_with (refine (HB.out _).mono ?_; rintro e w1 ⟨rfl, hb⟩)
    go_ret
    exact ⟨rfl, hb⟩
  by_cases hN1 : 128 < N
  · go_enter Try.func5, Try.ntmps5
    go_wp2_with (refine (HB.out _).mono ?_; rintro e w1 ⟨rfl, hb⟩)
    go_ret
    exact ⟨rfl, hb⟩
  by_cases hbig2 : 150 < m
  · go_enter Try.func5, Try.ntmps5
    go_wp2_with (refine (HB.out _).mono ?_; rintro e w1 ⟨rfl, hb⟩)
    go_ret
    exact ⟨rfl, hb⟩
  have hs := memS_ok (n := N) (taken := 1) (ws := []) (by omega) (by omega) (fun x hx => (by cases hx))
  have hT0 := Lib.hid (TK.first (n := N) (by omega) (by omega))
  have hNn := Lib.hid (memS_n (n := N) (taken := 1) (ws := []))
  go_enter Try.func5, Try.ntmps5
  go_wp2_with fail
  refine (HB.out _).mono ?_; rintro e w1 ⟨rfl, hb⟩
  have h1 := h0.below hb
  have x1 := x0.below hb
  clear h0 x0 hb HB
  go_wp2_with fail
  have hA1 : Arr w1 none 0 1 (([] : List Int).map cellsU) := ⟨rfl, by omega, fun i xs hi => (by simp at hi)⟩
  refine (memory_any N 1 none 0 0 [] _ (by omega) (by omega) hA1 (fun x hx => (by cases hx))).mono ?_; rintro e w2 ⟨f, q, rfl, h2, x2⟩
  have h3' := (h1.onto' h2.a2).a1
  have h3 : Has w2 (frA f (memS N 1 []) * old w w.heap.size) := frA_shut (h3'.p2.right) hs (Agree.refl _)
  have x3 := x1.trans x2
  clear h1 x1 h2 x2 hA1 h3' hs
  generalize memS N 1 [] = s at *
  go_wp2_with fail
  go_loopw [2, 9, 10] (fun t2 t9 t wr => ∃ (i : Nat) (s1 : Ms) (a mk : Int), i ≤ m ∧ t2 = (Value.int .i64) a ∧ t9 = (Value.int .i64) mk ∧ t = (Value.int .i64) i ∧ Hid (TK s1 mk ∧ s1.n = N.toNat) ∧ Has wr (frA f s1 * old w w.heap.size) ∧ Ext w wr) (fun _ _ t _ => m - (intOf t).toNat)
  case atStart => exact ⟨0, s, A, -1, by omega, rfl, rfl, rfl, Lib.hid ⟨hT0.out, hNn.out⟩, h3, x3⟩
  case round =>
    clear h3 x3 hT0 hNn
    obtain ⟨i, s1, a, mk, hi, rfl, rfl, rfl, HTK, hr, hx⟩ := hrel
    by_cases hlt : i < m
    · have hil : i < L.length := by have := hL.out; omega
      obtain ⟨b', off, hb, -⟩ := (hB.out.old1 hr.right hx).stp hil
      subst hb
      have ho := hok2 _ (List.getElem_mem hil)
      obtain ⟨x, hy⟩ : ∃ y, L[i] = y := ⟨_, rfl⟩
      rw [hy] at ho
      obtain ⟨dl, d0, d1, d2, d3, d4, d5, d6, d7, d8⟩ := (hB.out.old1 hr.right hx).stpAt hil hy
      obtain ⟨hop, _, hMo, hAc⟩ := ho
      have hs4 := hr.new #[(Value.int .i64) x.kind, (Value.int .i64) x.core, (Value.int .i64) x.m.page, (Value.int .i64) x.m.size, (Value.int .i64) x.m.frame, (Value.int .i64) x.m.rights, (Value.int .i64) x.a.page, (Value.int .i64) x.a.kind, Value.bool x.a.user] 28
      have x2 := hx.alloc (.cells #[(Value.int .i64) x.kind, (Value.int .i64) x.core, (Value.int .i64) x.m.page, (Value.int .i64) x.m.size, (Value.int .i64) x.m.frame, (Value.int .i64) x.m.rights, (Value.int .i64) x.a.page, (Value.int .i64) x.a.kind, Value.bool x.a.user] 28)
      go_upto_block 2 with fail
      generalize wr.alloc (.cells #[(Value.int .i64) x.kind, (Value.int .i64) x.core, (Value.int .i64) x.m.page, (Value.int .i64) x.m.size, (Value.int .i64) x.m.frame, (Value.int .i64) x.m.rights, (Value.int .i64) x.a.page, (Value.int .i64) x.a.kind, Value.bool x.a.user] 28) = w4 at *
      generalize wr.heap.size = X at *
      clear d0 d1 d2 d3 d4 d5 d6 d7 d8 dl hr hx
      have hw : Has w4 (frA f s1 * (blk X #[(Value.int .i64) x.kind, (Value.int .i64) x.core, (Value.int .i64) x.m.page, (Value.int .i64) x.m.size, (Value.int .i64) x.m.frame, (Value.int .i64) x.m.rights, (Value.int .i64) x.a.page, (Value.int .i64) x.a.kind, Value.bool x.a.user] 28 * old w w.heap.size)) := hs4.eq (by ac_rfl)
      have HXC := Lib.hid (fun (w' : World) (o : Int) (P : HProp) (h : Has w' (P * (blk X #[(Value.int .i64) o, (Value.int .i64) x.core, (Value.int .i64) x.m.page, (Value.int .i64) x.m.size, (Value.int .i64) x.m.frame, (Value.int .i64) x.m.rights, (Value.int .i64) x.a.page, (Value.int .i64) x.a.kind, Value.bool x.a.user] 28 * old w w.heap.size))) => (⟨h.right.cell 2, h.right.cell 3, h.right.cell 4, h.right.cell 5, h.right.lt⟩ :
        w'.cell? ⟨X, 2, none⟩ = some ((Value.int .i64) x.m.page) ∧ w'.cell? ⟨X, 3, none⟩ = some ((Value.int .i64) x.m.size) ∧ w'.cell? ⟨X, 4, none⟩ = some ((Value.int .i64) x.m.frame) ∧ w'.cell? ⟨X, 5, none⟩ = some ((Value.int .i64) x.m.rights) ∧ X < w'.heap.size))
      have c0 := hw.right.cell 0
      obtain ⟨c2, c3, c4, c5, cl⟩ := HXC.out _ _ _ hw
      clear hs4 hy
      go_cut [2, 9] (fun s2 s9 wx => ∃ (s' : Ms) (a' mk' : Int), s2 = (Value.int .i64) a' ∧ s9 = (Value.int .i64) mk' ∧ Hid (TK s' mk' ∧ s'.n = N.toNat) ∧ Has wx (frA f s' * old w w.heap.size) ∧ Ext w wx)
      case first =>
        by_cases o1 : x.kind = 1
        · as_aux_lemma =>
          --[A
          have HI := Lib.hid (fun R w h => insA f s1 R w h 0 x.m)
          have HT0 := Lib.hid (And.intro (HTK.out.1.ins x.m) (show (insS s1 0 x.m).n = N.toNat from (ins_ok HTK.out.1.wf HTK.out.1.ok.inv HTK.out.1.ok.small x.m).2.2.1.trans HTK.out.2))
          by_cases hcd : insC s1 0 x.m = 0
          · by_cases hm1 : mk = -1
            · by_cases hai : a ≤ i
              · obtain ⟨d, t, hd, hcode, hlen, htd, hhas, hInP, hTK'⟩ := HTK.out.1.mark hcd
                have hn2 : (storeS (insS s1 0 x.m) t (index x.m.page (3 - (d : Int))) (bits .or .u64 (loadV (insS s1 0 x.m) t (index x.m.page (3 - (d : Int)))) 96)).n = N.toNat := by rw [storeS_n]; exact HT0.out.2
                have HT := Lib.hid (And.intro hTK' hn2)
                clear HTK HT0 hTK' hn2
                rw [hcd] at HI
                generalize insS s1 0 x.m = sA at *
                have HW := Lib.hid (fun R w h => findWayA f sA R w h 0 x.m.page)
                unfold FoundWay spotV at HW
                have HLD := Lib.hid (fun R w h => loadA f sA R w h t (index x.m.page (3 - (d : Int))))
                have HST := Lib.hid (fun R w h => storeA f sA R w h t (index x.m.page (3 - (d : Int))) (or_u64 (loadV sA t (index x.m.page (3 - (d : Int)))) 96))
                have hpg : (placesOf x.m.page (d + 1))[d]? = some (index x.m.page (3 - (d : Int))) := placesOf_get _ (by omega)
                rw [hlen] at HW
                have hpl : (placesOf x.m.page (d + 1)).length = d + 1 := by unfold placesOf; simp
                generalize placesOf x.m.page (d + 1) = pls at *
                generalize index x.m.page (3 - (d : Int)) = ix at *
                generalize loadV sA t ix = lv at *
                generalize storeS sA t ix (bits .or .u64 lv 96) = sB at *
                generalize way sA 0 x.m.page = y at *
                obtain ⟨code, tabs, lev, th, lf, rg, us, di, fr⟩ := y
                dsimp only at *
                subst hcode
                have HTD := Lib.hid htd
                have HPG := Lib.hid hpg
                have HLN := Lib.hid (And.intro hlen hpl)
                clear htd hpg hlen hpl hcd hhas hInP
                generalize x.kind = op at *
                subst o1 hm1
                go_wp2_with fail
                refine (HI.out _ _ hw).mono ?_; rintro e w5 ⟨rfl, h5, x5⟩
                have x6 := x2.trans x5
                clear c0 c2 c3 c4 c5 cl hw x2 x5 HI
                obtain ⟨c2, c3, c4, c5, cl⟩ := HXC.out _ 1 _ h5
                go_wp2_with fail
                refine (HW.out _ _ h5).mono ?_; rintro e w6 hF
                obtain ⟨A', B', c', d', rfl, h6, x7⟩ := hF
                have h7 : Has _ (blk w6.heap.size #[(Value.int .i64) lev, Value.bool th, Value.bool lf, (Value.int .i64) rg, Value.bool us, Value.bool di, (Value.int .i64) fr, .slice A' (d + 1) c', .slice B' (d + 1) d'] 56 * (frA f sA * (irow (.slice A' (d + 1) c') tabs * (irow (.slice B' (d + 1) d') pls * (blk X #[(Value.int .i64) 1, (Value.int .i64) x.core, (Value.int .i64) x.m.page, (Value.int .i64) x.m.size, (Value.int .i64) x.m.frame, (Value.int .i64) x.m.rights, (Value.int .i64) x.a.page, (Value.int .i64) x.a.kind, Value.bool x.a.user] 28 * old w w.heap.size))))) := (((h5.onto' (h6.a2)).a1).new #[(Value.int .i64) lev, Value.bool th, Value.bool lf, (Value.int .i64) rg, Value.bool us, Value.bool di, (Value.int .i64) fr, .slice A' (d + 1) c', .slice B' (d + 1) d'] 56).eq (by ac_rfl)
                have x8 := (x6.trans x7).alloc (.cells #[(Value.int .i64) lev, Value.bool th, Value.bool lf, (Value.int .i64) rg, Value.bool us, Value.bool di, (Value.int .i64) fr, .slice A' (d + 1) c', .slice B' (d + 1) d'] 56)
                clear c2 c3 c4 c5 cl h5 h6 x6 x7 HW
                go_upto_region 15 with fail
                generalize w6.alloc (.cells #[(Value.int .i64) lev, Value.bool th, Value.bool lf, (Value.int .i64) rg, Value.bool us, Value.bool di, (Value.int .i64) fr, .slice A' (d + 1) c', .slice B' (d + 1) d'] 56) = w8 at *
                generalize w6.heap.size = Y at *
                have hlen1 : ((d + 1 : Nat) : Int) - 1 = (d : Int) := by omega
                obtain ⟨bA, hA1, -⟩ := irow_at (h7.right.right) (k := d) (by have := HLN.out.1; omega)
                obtain ⟨bB, hB1, -⟩ := irow_at (h7.right.right.right) (k := d) (by have := HLN.out.2; omega)
                subst hA1; subst hB1
                have HK := Lib.hid (fun (w' : World) (P : HProp) (h : Has w' (P * (blk Y #[(Value.int .i64) lev, Value.bool th, Value.bool lf, (Value.int .i64) rg, Value.bool us, Value.bool di, (Value.int .i64) fr, .slice (some ⟨bA, 0, none⟩) (d + 1) c', .slice (some ⟨bB, 0, none⟩) (d + 1) d'] 56 * (irow (.slice (some ⟨bA, 0, none⟩) (d + 1) c') tabs * (irow (.slice (some ⟨bB, 0, none⟩) (d + 1) d') pls * (blk X #[(Value.int .i64) 1, (Value.int .i64) x.core, (Value.int .i64) x.m.page, (Value.int .i64) x.m.size, (Value.int .i64) x.m.frame, (Value.int .i64) x.m.rights, (Value.int .i64) x.a.page, (Value.int .i64) x.a.kind, Value.bool x.a.user] 28 * old w w.heap.size)))))) => (by
                  obtain ⟨b1, e1, l1, q1⟩ := irow_at (h.right.right) (k := d) (by have := HLN.out.1; omega)
                  obtain ⟨b2, e2, l2, q2⟩ := irow_at (h.right.right.right) (k := d) (by have := HLN.out.2; omega)
                  injection e1 with e1; injection e1 with e1
                  injection e2 with e2; injection e2 with e2
                  subst e1; subst e2
                  rw [(List.getElem?_eq_some_iff.1 HTD.out).2] at q1
                  rw [(List.getElem?_eq_some_iff.1 HPG.out).2] at q2
                  exact ⟨h.right.cell 7, h.right.cell 8, q1, q2, h.right.lt, l1, l2⟩ : w'.cell? ⟨Y, 7, none⟩ = some (.slice (some ⟨bA, 0, none⟩) (d + 1) c') ∧ w'.cell? ⟨Y, 8, none⟩ = some (.slice (some ⟨bB, 0, none⟩) (d + 1) d') ∧ w'.cell? ⟨bA, d, none⟩ = some ((Value.int .i64) t) ∧ w'.cell? ⟨bB, d, none⟩ = some ((Value.int .i64) ix) ∧ Y < w'.heap.size ∧ bA < w'.heap.size ∧ bB < w'.heap.size))
                have HKK := Lib.hid (fun (w' : World) (P : HProp) (h : Has w' (P * (blk Y #[(Value.int .i64) lev, Value.bool th, Value.bool lf, (Value.int .i64) rg, Value.bool us, Value.bool di, (Value.int .i64) fr, .slice (some ⟨bA, 0, none⟩) (d + 1) c', .slice (some ⟨bB, 0, none⟩) (d + 1) d'] 56 * (irow (.slice (some ⟨bA, 0, none⟩) (d + 1) c') tabs * (irow (.slice (some ⟨bB, 0, none⟩) (d + 1) d') pls * (blk X #[(Value.int .i64) 1, (Value.int .i64) x.core, (Value.int .i64) x.m.page, (Value.int .i64) x.m.size, (Value.int .i64) x.m.frame, (Value.int .i64) x.m.rights, (Value.int .i64) x.a.page, (Value.int .i64) x.a.kind, Value.bool x.a.user] 28 * old w w.heap.size)))))) => (⟨(HK.out _ _ h).1, (HK.out _ _ h).2.1, (HK.out _ _ h).2.2.1, (HK.out _ _ h).2.2.2.1⟩ : w'.cell? ⟨Y, 7, none⟩ = some (.slice (some ⟨bA, 0, none⟩) (d + 1) c') ∧ w'.cell? ⟨Y, 8, none⟩ = some (.slice (some ⟨bB, 0, none⟩) (d + 1) d') ∧ w'.cell? ⟨bA, d, none⟩ = some ((Value.int .i64) t) ∧ w'.cell? ⟨bB, d, none⟩ = some ((Value.int .i64) ix)))
                have h8 : Has w8 (frA f sA * (blk Y #[(Value.int .i64) lev, Value.bool th, Value.bool lf, (Value.int .i64) rg, Value.bool us, Value.bool di, (Value.int .i64) fr, .slice (some ⟨bA, 0, none⟩) (d + 1) c', .slice (some ⟨bB, 0, none⟩) (d + 1) d'] 56 * (irow (.slice (some ⟨bA, 0, none⟩) (d + 1) c') tabs * (irow (.slice (some ⟨bB, 0, none⟩) (d + 1) d') pls * (blk X #[(Value.int .i64) 1, (Value.int .i64) x.core, (Value.int .i64) x.m.page, (Value.int .i64) x.m.size, (Value.int .i64) x.m.frame, (Value.int .i64) x.m.rights, (Value.int .i64) x.a.page, (Value.int .i64) x.a.kind, Value.bool x.a.user] 28 * old w w.heap.size))))) := h7.p2
                clear h7
                obtain ⟨k7, k8, ka, kb, kl, la, lb⟩ := HK.out _ _ h8
                have hdlt : (d : Int) < ((d + 1 : Nat) : Int) := by omega
                have hdlt' : (d : Int) < (d : Int) + 1 := by omega
                have hn0 : ¬ ((d : Int) < 0) := by omega
                go_upto_region 18 with fail
                have v7 := via_cell k7
                have v8 := via_cell k8
                have va := via_cell ka
                have vb' := via_cell kb
                refine wp_region_via (by kernel_rfl) (by kernel_rfl) ?_
                repeat (first | go_big_quiet_step ((go_at_call 30; exact Same.via (HLD.out _ _ (h8.via _)))) | quiet_step ((go_at_call 30; exact Same.via (HLD.out _ _ (h8.via _)))))
                refine wpQuiet_nil ?_
                intro _ hw'
                obtain ⟨uq, hw''⟩ := hw'
                subst hw''
                have h9 := h8.via uq
                have x9 := x8.below (via_below _ uq)
                clear k7 k8 ka kb kl la lb h8 x8 HLD v7 v8 va vb'
                go_upto_region 19 with fail
                generalize via w8 uq = w9 at *
                obtain ⟨k7, k8, ka, kb, kl, la, lb⟩ := HK.out _ _ h9
                have h7 := h9.drew
                have x7 := x9.drew
                go_region_held3 (fun w' => w'.cell? ⟨Y, 7, none⟩ = some (.slice (some ⟨bA, 0, none⟩) (d + 1) c') ∧ w'.cell? ⟨Y, 8, none⟩ = some (.slice (some ⟨bB, 0, none⟩) (d + 1) d') ∧ w'.cell? ⟨bA, d, none⟩ = some ((Value.int .i64) t) ∧ w'.cell? ⟨bB, d, none⟩ = some ((Value.int .i64) ix)) (first | (with_reducible exact HKK.out _ _ h7) | (with_reducible exact HKK.out _ _ h8) | go_keep) (first | (go_at_call 31; (with_reducible refine (HST.out _ _ h7).mono ?_); rintro e w8 ⟨rfl, h8, x8⟩))
                have x10 := x7.trans x8
                have h10 : Has w8 (blk X #[(Value.int .i64) 1, (Value.int .i64) x.core, (Value.int .i64) x.m.page, (Value.int .i64) x.m.size, (Value.int .i64) x.m.frame, (Value.int .i64) x.m.rights, (Value.int .i64) x.a.page, (Value.int .i64) x.a.kind, Value.bool x.a.user] 28 * (frA f sB * old w w.heap.size)) := h8.eq (show _ = blk Y #[(Value.int .i64) lev, Value.bool th, Value.bool lf, (Value.int .i64) rg, Value.bool us, Value.bool di, (Value.int .i64) fr, .slice (some ⟨bA, 0, none⟩) (d + 1) c', .slice (some ⟨bB, 0, none⟩) (d + 1) d'] 56 * (irow (.slice (some ⟨bA, 0, none⟩) (d + 1) c') tabs * (irow (.slice (some ⟨bB, 0, none⟩) (d + 1) d') pls * (blk X #[(Value.int .i64) 1, (Value.int .i64) x.core, (Value.int .i64) x.m.page, (Value.int .i64) x.m.size, (Value.int .i64) x.m.frame, (Value.int .i64) x.m.rights, (Value.int .i64) x.a.page, (Value.int .i64) x.a.kind, Value.bool x.a.user] 28 * (frA f sB * old w w.heap.size)))) by ac_rfl) |>.right.right.right
                clear k7 k8 ka kb kl la lb h7 x7 h8 x8 h9 x9
                have c2 := h10.cell 2
                have cl := h10.lt
                have hf := h10.right
                have xf := x10
                go_wp2_with fail
                go_meet
                case rel => exact ⟨sB, a, x.m.page, rfl, rfl, HT.out, hf, xf⟩
              · have hai' : ¬ a ≤ (i : Int) := hai
                rw [hcd] at HI
                generalize insS s1 0 x.m = sA at *
                generalize x.kind = op at *
                subst o1 hm1
                have HT := HT0
                clear HT0 HTK hcd
                go_wp2_with fail
                refine (HI.out _ _ hw).mono ?_; rintro e w5 ⟨rfl, h5, x5⟩
                have hf := h5.eq (show _ = blk X #[(Value.int .i64) 1, (Value.int .i64) x.core, (Value.int .i64) x.m.page, (Value.int .i64) x.m.size, (Value.int .i64) x.m.frame, (Value.int .i64) x.m.rights, (Value.int .i64) x.a.page, (Value.int .i64) x.a.kind, Value.bool x.a.user] 28 * (frA f sA * old w w.heap.size) by ac_rfl) |>.right
                have xf := x2.trans x5
                clear c0 c2 c3 c4 c5 cl hw x2 x5 HI HXC h5
                go_wp2_with fail
                go_meet
                case rel => exact ⟨sA, a, -1, rfl, rfl, HT.out, hf, xf⟩
            · have hmk : 0 ≤ mk := by
                rcases HTK.out.1.at_ with h | h
                · exact absurd h hm1
                · exact h.inP.1
              rw [hcd] at HI
              generalize insS s1 0 x.m = sA at *
              generalize x.kind = op at *
              subst o1
              have HT := HT0
              clear HT0 HTK hcd hm1
              go_wp2_with fail
              refine (HI.out _ _ hw).mono ?_; rintro e w5 ⟨rfl, h5, x5⟩
              have hf := h5.eq (show _ = blk X #[(Value.int .i64) 1, (Value.int .i64) x.core, (Value.int .i64) x.m.page, (Value.int .i64) x.m.size, (Value.int .i64) x.m.frame, (Value.int .i64) x.m.rights, (Value.int .i64) x.a.page, (Value.int .i64) x.a.kind, Value.bool x.a.user] 28 * (frA f sA * old w w.heap.size) by ac_rfl) |>.right
              have xf := x2.trans x5
              clear c0 c2 c3 c4 c5 cl hw x2 x5 HI HXC h5
              go_wp2_with fail
              go_meet
              case rel => exact ⟨sA, a, mk, rfl, rfl, HT.out, hf, xf⟩
          · have hcd' : (insC s1 0 x.m == 0) = false := by simpa using hcd
            generalize insC s1 0 x.m = cd at *
            generalize insS s1 0 x.m = sA at *
            generalize x.kind = op at *
            subst o1
            have HT := HT0
            clear HT0 HTK hcd
            go_wp2_with fail
            refine (HI.out _ _ hw).mono ?_; rintro e w5 ⟨rfl, h5, x5⟩
            have hf := h5.eq (show _ = blk X #[(Value.int .i64) 1, (Value.int .i64) x.core, (Value.int .i64) x.m.page, (Value.int .i64) x.m.size, (Value.int .i64) x.m.frame, (Value.int .i64) x.m.rights, (Value.int .i64) x.a.page, (Value.int .i64) x.a.kind, Value.bool x.a.user] 28 * (frA f sA * old w w.heap.size) by ac_rfl) |>.right
            have xf := x2.trans x5
            clear c0 c2 c3 c4 c5 cl hw x2 x5 HI HXC h5
            go_wp2_with fail
            go_meet
            case rel => exact ⟨sA, a, mk, rfl, rfl, HT.out, hf, xf⟩
          --A]
        by_cases o2 : x.kind = 2
        · as_aux_lemma =>
          --[B
          have HR := Lib.hid (fun R w h => remA f s1 R w h 0 x.m.page)
          unfold RemovedA at HR
          have HTs : Hid (∀ mk', (findC s1 0 x.m.page = 0 → mk' = -1 ∨ (mk' = mk ∧ over (findM s1 0 x.m.page) mk = false)) → (findC s1 0 x.m.page ≠ 0 → mk' = mk) → TK (giveL (remS s1 0 x.m.page) (remG s1 0 x.m.page)) mk' ∧ (giveL (remS s1 0 x.m.page) (remG s1 0 x.m.page)).n = N.toNat) := by
            refine Lib.hid fun mk' h1 h2 => ?_
            by_cases hf : findC s1 0 x.m.page = 0
            · exact ⟨HTK.out.1.rem hf (h1 hf), (rem_give HTK.out.1.wf HTK.out.1.ok.inv hf).2.2.1.trans HTK.out.2⟩
            · obtain ⟨_, e2, e3⟩ := rem_none (s := s1) (p := x.m.page) hf
              rw [e2, e3, h2 hf]
              exact HTK.out
          have HOK := Lib.hid (remS_ok HTK.out.1.ok 0 x.m.page)
          have HMK := Lib.hid HTK.out.1.at_
          have HMO := Lib.hid (findM_i64 HTK.out.1.wf x.m.page)
          clear HTK
          generalize findC s1 0 x.m.page = cd at *
          generalize findM s1 0 x.m.page = mp at *
          generalize remG s1 0 x.m.page = g at *
          generalize remS s1 0 x.m.page = sA at *
          generalize x.kind = op at *
          subst o2
          go_wp2_with fail
          refine (HR.out _ _ hw).mono ?_; rintro e w5 ⟨G, gn, gc, rfl, h5, x5⟩
          have h6 : Has _ (frA f (giveL sA (g.take 0)) * (irow (.slice G gn gc) g * (blk w5.heap.size #[(Value.int .i64) mp.page, (Value.int .i64) mp.size, (Value.int .i64) mp.frame, (Value.int .i64) mp.rights] 24 * old w w.heap.size))) := (((h5.new #[(Value.int .i64) mp.page, (Value.int .i64) mp.size, (Value.int .i64) mp.frame, (Value.int .i64) mp.rights] 24).eq (show _ = blk X #[(Value.int .i64) 2, (Value.int .i64) x.core, (Value.int .i64) x.m.page, (Value.int .i64) x.m.size, (Value.int .i64) x.m.frame, (Value.int .i64) x.m.rights, (Value.int .i64) x.a.page, (Value.int .i64) x.a.kind, Value.bool x.a.user] 28 * (frA f (giveL sA (g.take 0)) * (irow (.slice G gn gc) g * (blk w5.heap.size #[(Value.int .i64) mp.page, (Value.int .i64) mp.size, (Value.int .i64) mp.frame, (Value.int .i64) mp.rights] 24 * old w w.heap.size))) by (rw [show giveL sA (g.take 0) = sA from rfl]; ac_rfl))).right)
          have x6 := (x2.trans x5).alloc (.cells #[(Value.int .i64) mp.page, (Value.int .i64) mp.size, (Value.int .i64) mp.frame, (Value.int .i64) mp.rights] 24)
          clear c0 c2 c3 c4 c5 cl hw x2 h5 x5 HR HXC
          go_upto_region 23 with fail
          generalize w5.alloc (.cells #[(Value.int .i64) mp.page, (Value.int .i64) mp.size, (Value.int .i64) mp.frame, (Value.int .i64) mp.rights] 24) = w6 at *
          generalize w5.heap.size = Y at *
          have hgl := Lib.hid (irow_len h6.right)
          have hgs := irow_small h6.right
          go_wp2_with fail
          go_loopw [20] (fun t wz => ∃ (k : Nat), k ≤ gn ∧ t = (Value.int .i64) k ∧ Hid ((giveL sA (g.take k)).Ok) ∧ Has wz (frA f (giveL sA (g.take k)) * (irow (.slice G gn gc) g * (blk Y #[(Value.int .i64) mp.page, (Value.int .i64) mp.size, (Value.int .i64) mp.frame, (Value.int .i64) mp.rights] 24 * old w w.heap.size))) ∧ Ext w wz) (fun t _ => gn - (intOf t).toNat)
          case atStart => exact ⟨0, by omega, rfl, HOK, h6, x6⟩
          case round =>
            clear h6 x6 HOK
            obtain ⟨k, hk, rfl, HO, hz, hxz⟩ := hrel
            by_cases hkl : k < gn
            · obtain ⟨bG, hG, hbG, cG⟩ := irow_at hz.right (k := k) (by have := hgl.out; omega)
              subst hG
              have hkg : k < g.length := by have := hgl.out; omega
              have et : g.take (k + 1) = g.take k ++ [g[k]] := List.take_succ_eq_append_getElem hkg
              have GF := Lib.hid (fun R w h => giveA f (giveL sA (g.take k)) R w h g[k])
              have HO1 := Lib.hid (HO.out.giveS g[k])
              rw [← giveL_snoc, ← et] at GF HO1
              generalize g[k] = v at *
              generalize (giveL sA (g.take k)).has v = bb at *
              clear hkg et HO
              go_wp2_with fail
              refine (GF.out _ _ hz).mono ?_; rintro e w5 ⟨rfl, h5, x5⟩
              go_wp2_with fail
              go_roundw
              case rel => exact ⟨k + 1, by omega, by go_num, HO1, h5, hxz.trans x5⟩
              case measure => simp [intOf]; omega
            · obtain rfl : k = gn := by omega
              have et : g.take k = g := List.take_of_length_le (by have := hgl.out; omega)
              rw [et] at hz
              have hz' : Has wr (blk Y #[(Value.int .i64) mp.page, (Value.int .i64) mp.size, (Value.int .i64) mp.frame, (Value.int .i64) mp.rights] 24 * (frA f (giveL sA g) * old w w.heap.size)) := (hz.eq (show _ = irow (.slice G k gc) g * (blk Y #[(Value.int .i64) mp.page, (Value.int .i64) mp.size, (Value.int .i64) mp.frame, (Value.int .i64) mp.rights] 24 * (frA f (giveL sA g) * old w w.heap.size)) by ac_rfl)).right
              clear hz et
              obtain ⟨m0, m1, m2, m3⟩ := hz'.cells4
              have ml := hz'.lt
              have hf := hz'.right
              have hkn : ¬ (k : Int) < (k : Int) := by omega
              by_cases hcd : cd = 0
              · subst hcd
                by_cases hmk : mk = -1
                · subst hmk
                  have HT := Lib.hid (HTs.out (-1) (fun _ => .inl rfl) (fun h => absurd rfl h))
                  clear HTs
                  have xf := hxz
                  go_wp2_with fail
                  go_meet
                  case rel => exact ⟨giveL sA g, a, -1, rfl, rfl, HT.out, hf, xf⟩
                · have hMk := HMK.out.resolve_left hmk
                  have h0k := hMk.inP.1
                  have hki : i64 mk := by unfold i64; have := hMk.inP.2; omega
                  have HH := Lib.hid (fun w => refHas_any mp mk w HMO.out hki)
                  cases ho : over mp mk with
                  | true =>
                    have HT := Lib.hid (HTs.out (-1) (fun _ => .inl rfl) (fun h => absurd rfl h))
                    rw [ho] at HH
                    clear HTs hMk HMK hki hmk
                    go_wp2_with fail
                    refine (HH.out _).mono ?_; rintro e w7 ⟨rfl, b7⟩
                    have xf := hxz.below b7
                    have hf' := hf.below b7
                    clear hf m0 m1 m2 m3 ml hz'
                    have hf := hf'
                    go_wp2_with fail
                    go_meet
                    case rel => exact ⟨giveL sA g, _, -1, rfl, rfl, HT.out, hf, xf⟩
                  | false =>
                    have HT := Lib.hid (HTs.out mk (fun _ => .inr ⟨rfl, ho⟩) (fun h => absurd rfl h))
                    rw [ho] at HH
                    clear HTs hMk HMK hki hmk
                    go_wp2_with fail
                    refine (HH.out _).mono ?_; rintro e w7 ⟨rfl, b7⟩
                    have xf := hxz.below b7
                    have hf' := hf.below b7
                    clear hf m0 m1 m2 m3 ml hz'
                    have hf := hf'
                    go_wp2_with fail
                    go_meet
                    case rel => exact ⟨giveL sA g, a, mk, rfl, rfl, HT.out, hf, xf⟩
              · have hcd' : (cd == 0) = false := by simpa using hcd
                have HT := Lib.hid (HTs.out mk (fun h => absurd h hcd) (fun _ => rfl))
                clear HTs hcd
                have xf := hxz
                go_wp2_with fail
                go_meet
                case rel => exact ⟨giveL sA g, a, mk, rfl, rfl, HT.out, hf, xf⟩
          --B]
        by_cases o3 : x.kind = 3
        · as_aux_lemma =>
          --[C
          have HI := Lib.hid (fun R w h => prA f s1 R w h 0 x.m.page x.m.rights)
          have hn : (prS s1 0 x.m.page x.m.rights).n = N.toNat := by
            by_cases hp : prC s1 0 x.m.page x.m.rights = 0
            · exact (pr_ok HTK.out.1.wf HTK.out.1.ok.inv hp).2.2.1.trans HTK.out.2
            · have e : prS s1 0 x.m.page x.m.rights = s1 := by unfold prS; rw [if_neg hp]
              rw [e]; exact HTK.out.2
          have HT := Lib.hid (And.intro (HTK.out.1.pr x.m.page x.m.rights) hn)
          clear hn HTK
          generalize prC s1 0 x.m.page x.m.rights = cd at *
          generalize prM s1 0 x.m.page x.m.rights = mp at *
          generalize prS s1 0 x.m.page x.m.rights = sA at *
          generalize x.kind = op at *
          subst o3
          go_wp2_with fail
          refine (HI.out _ _ hw).mono ?_; rintro e w5 ⟨rfl, h5, x5⟩
          have hf := h5.eq (show _ = blk X #[(Value.int .i64) 3, (Value.int .i64) x.core, (Value.int .i64) x.m.page, (Value.int .i64) x.m.size, (Value.int .i64) x.m.frame, (Value.int .i64) x.m.rights, (Value.int .i64) x.a.page, (Value.int .i64) x.a.kind, Value.bool x.a.user] 28 * (frA f sA * old w w.heap.size) by ac_rfl) |>.right
          have xf := x2.trans x5
          clear c0 c2 c3 c4 c5 cl hw x2 x5 HI HXC h5
          go_wp2_with fail
          go_meet
          case rel => exact ⟨sA, a, mk, rfl, rfl, HT.out, hf, xf⟩
          --C]
        have HT := HTK
        have hf := hw.eq (show _ = blk X #[(Value.int .i64) x.kind, (Value.int .i64) x.core, (Value.int .i64) x.m.page, (Value.int .i64) x.m.size, (Value.int .i64) x.m.frame, (Value.int .i64) x.m.rights, (Value.int .i64) x.a.page, (Value.int .i64) x.a.kind, Value.bool x.a.user] 28 * (frA f s1 * old w w.heap.size) by ac_rfl) |>.right
        have xf := x2
        go_wp2_with fail
        go_meet
        case rel => exact ⟨s1, a, mk, rfl, rfl, HT.out, hf, xf⟩
      case rest =>
        --[D
        clear c0 c2 c3 c4 c5 cl hw x2 HXC HTK
        obtain ⟨s', a', mk', rfl, rfl, HTK, hw, x2⟩ := hcut
        by_cases hmk : mk' = -1
        · subst hmk
          go_wp2_with fail
          go_roundw
          case rel => exact ⟨i + 1, s', a', -1, by omega, rfl, rfl, by go_num, HTK, hw, x2⟩
          case measure => simp [intOf]; omega
        · have hMk := HTK.out.1.at_.resolve_left hmk
          have h0k := hMk.inP.1
          obtain ⟨f1, f2, f3⟩ := hMk.found HTK.out.1.wf
          have HF := Lib.hid (fun R w h => findA f s' R w h 0 mk')
          unfold enV at HF
          rw [f1] at HF
          generalize findM s' 0 mk' = mp at *
          generalize findE s' 0 mk' = fe at *
          obtain ⟨th, lf, rg, us, di, fr⟩ := fe
          dsimp only at f2 f3 HF
          subst f2 f3
          clear hMk hmk f1
          go_wp2_with fail
          refine (HF.out _ _ hw).mono ?_; rintro e w6 ⟨rfl, b6⟩
          have h6 : Has _ (blk (w6.heap.size + 1) #[Value.bool th, Value.bool lf, (Value.int .i64) rg, Value.bool true, Value.bool true, (Value.int .i64) fr] 50 * (blk w6.heap.size #[(Value.int .i64) mp.page, (Value.int .i64) mp.size, (Value.int .i64) mp.frame, (Value.int .i64) mp.rights] 24 * (frA f s' * old w w.heap.size))) := (((hw.below b6).new #[(Value.int .i64) mp.page, (Value.int .i64) mp.size, (Value.int .i64) mp.frame, (Value.int .i64) mp.rights] 24).new #[Value.bool th, Value.bool lf, (Value.int .i64) rg, Value.bool true, Value.bool true, (Value.int .i64) fr] 50).eq (by simp only [World.size_alloc])
          have x6 := ((x2.below b6).alloc (.cells #[(Value.int .i64) mp.page, (Value.int .i64) mp.size, (Value.int .i64) mp.frame, (Value.int .i64) mp.rights] 24)).alloc (.cells #[Value.bool th, Value.bool lf, (Value.int .i64) rg, Value.bool true, Value.bool true, (Value.int .i64) fr] 50)
          clear hw x2 b6 HF
          go_upto_region 34 with fail
          generalize (w6.alloc (.cells #[(Value.int .i64) mp.page, (Value.int .i64) mp.size, (Value.int .i64) mp.frame, (Value.int .i64) mp.rights] 24)).alloc (.cells #[Value.bool th, Value.bool lf, (Value.int .i64) rg, Value.bool true, Value.bool true, (Value.int .i64) fr] 50) = w7 at *
          generalize w6.heap.size = Y at *
          obtain ⟨e0, e1, e2, e3, e4, e5⟩ := h6.cells6
          have el := h6.lt
          go_wp2_with fail
          go_roundw
          case rel => exact ⟨i + 1, s', a', mk', by omega, rfl, rfl, by go_num, HTK, h6.right.right, x6⟩
          case measure => simp [intOf]; omega
        --D]
    · obtain rfl : i = m := by omega
      --[E
      clear hB hL hok2 hi hlt hm2 hbig2
      obtain ⟨HT1, HN1⟩ := HTK.out
      have hlk := (list_link HT1.wf).2.1
      have HL := Lib.hid (fun R w h => listW f s1 [] _ HT1.wf R w h)
      have HS := Lib.hid (And.intro HT1.ok (And.intro HT1.wf (And.intro HN1 (show Lk s1 0 ((allM s1 0).drop 0) from hlk))))
      clear HT1 HN1 HTK hlk
      generalize allM s1 0 = LL at *
      go_wp2_with fail
      refine (HL.out _ _ hr).mono ?_; rintro e w5 ⟨A, c, rfl, h5, x5⟩
      have h6 := h5.p2
      have x6 := hx.trans x5
      have hsm := mrow_small h5
      clear h5 x5 hr hx HL
      go_wp2_with fail
      go_loopw [26] (fun t wz => ∃ (j : Nat) (s2 : Ms), j ≤ LL.length ∧ t = (Value.int .i64) j ∧ Hid (s2.Ok ∧ Wf s2 0 [] (fun _ => False) ∧ s2.n = N.toNat ∧ Lk s2 0 (LL.drop j)) ∧ Has wz (frA f s2 * (mrow (.slice A LL.length c) LL * old w w.heap.size)) ∧ Ext w wz) (fun t _ => LL.length - (intOf t).toNat)
      case atStart => exact ⟨0, s1, by omega, rfl, HS, h6, x6⟩
      case round =>
        clear h6 x6 HS
        obtain ⟨j, s2, hj, rfl, HS, hz, hxz⟩ := hrel
        by_cases hjl : j < LL.length
        · obtain ⟨bL, hbL, lL, l0, l1, l2, l3⟩ := mrow_at hz.right hjl
          subst hbL
          obtain ⟨ok2, wf2, n2, lk2⟩ := HS.out
          rw [List.drop_eq_getElem_cons hjl] at lk2
          obtain ⟨k1, k2⟩ := drop_head lk2.ok
          have hfc : findC s2 0 LL[j].page = 0 := (lk_code wf2 lk2 _).1.trans k2
          obtain ⟨g1, g2, g3, _⟩ := rem_give wf2 ok2.inv hfc
          have lk3 := lk_give wf2 ok2.inv lk2 hfc
          rw [k1] at lk3
          have HN := Lib.hid (And.intro (show (giveL (remS s2 0 LL[j].page) (remG s2 0 LL[j].page)).Ok from ⟨g2, by show (remGive s2 LL[j].page).n ≤ 128; rw [g3]; exact ok2.small⟩) (And.intro (show Wf (giveL (remS s2 0 LL[j].page) (remG s2 0 LL[j].page)) 0 [] (fun _ => False) from g1) (And.intro (show (giveL (remS s2 0 LL[j].page) (remG s2 0 LL[j].page)).n = N.toNat from g3.trans n2) lk3)))
          have HR := Lib.hid (fun R w h => remA f s2 R w h 0 LL[j].page)
          unfold RemovedA at HR
          rw [hfc] at HR
          have HOK := Lib.hid (remS_ok ok2 0 LL[j].page)
          clear ok2 wf2 n2 lk2 k1 k2 hfc g1 g2 g3 lk3 HS
          change Hid (_ ∧ _ ∧ _ ∧ Lk (giveL (remS s2 0 LL[j].page) (remG s2 0 LL[j].page)) 0 (LL.drop (j + 1))) at HN
          generalize findM s2 0 LL[j].page = mp at *
          generalize remG s2 0 LL[j].page = g at *
          generalize remS s2 0 LL[j].page = sA at *
          generalize LL[j].page = pg at *
          generalize LL[j].size = z1 at *
          generalize LL[j].frame = z2 at *
          generalize LL[j].rights = z3 at *
          go_wp2_with fail
          refine (HR.out _ _ hz).mono ?_; rintro e w7 ⟨G, gn, gc, rfl, h7, x7⟩
          have h8 : Has _ (frA f (giveL sA (g.take 0)) * (irow (.slice G gn gc) g * (mrow (.slice (some ⟨bL, 0, none⟩) LL.length c) LL * old w w.heap.size))) := (h7.alloc (.cells #[(Value.int .i64) mp.page, (Value.int .i64) mp.size, (Value.int .i64) mp.frame, (Value.int .i64) mp.rights] 24)).eq (by (rw [show giveL sA (g.take 0) = sA from rfl]; ac_rfl))
          have x8 := (hxz.trans x7).alloc (.cells #[(Value.int .i64) mp.page, (Value.int .i64) mp.size, (Value.int .i64) mp.frame, (Value.int .i64) mp.rights] 24)
          clear hz hxz h7 x7 l0 l1 l2 l3 lL HR
          go_upto_region 43 with fail
          generalize w7.alloc (.cells #[(Value.int .i64) mp.page, (Value.int .i64) mp.size, (Value.int .i64) mp.frame, (Value.int .i64) mp.rights] 24) = w8 at *
          have hgl := Lib.hid (irow_len h8.right)
          have hgs := irow_small h8.right
          go_wp2_with fail
          go_loopw [30] (fun t wz => ∃ (k : Nat), k ≤ gn ∧ t = (Value.int .i64) k ∧ Hid ((giveL sA (g.take k)).Ok) ∧ Has wz (frA f (giveL sA (g.take k)) * (irow (.slice G gn gc) g * (mrow (.slice (some ⟨bL, 0, none⟩) LL.length c) LL * old w w.heap.size))) ∧ Ext w wz) (fun t _ => gn - (intOf t).toNat)
          case atStart => exact ⟨0, by omega, rfl, HOK, h8, x8⟩
          case round =>
            clear h8 x8 HOK
            obtain ⟨k, hk, rfl, HO, hz, hxz⟩ := hrel
            by_cases hkl : k < gn
            · obtain ⟨bG, hG, hbG, cG⟩ := irow_at hz.right (k := k) (by have := hgl.out; omega)
              subst hG
              have hkg : k < g.length := by have := hgl.out; omega
              have et : g.take (k + 1) = g.take k ++ [g[k]] := List.take_succ_eq_append_getElem hkg
              have GF := Lib.hid (fun R w h => giveA f (giveL sA (g.take k)) R w h g[k])
              have HO1 := Lib.hid (HO.out.giveS g[k])
              rw [← giveL_snoc, ← et] at GF HO1
              generalize g[k] = v at *
              generalize (giveL sA (g.take k)).has v = bb at *
              clear hkg et HO
              go_wp2_with fail
              refine (GF.out _ _ hz).mono ?_; rintro e w5 ⟨rfl, h5, x5⟩
              go_wp2_with fail
              go_roundw
              case rel => exact ⟨k + 1, by omega, by go_num, HO1, h5, hxz.trans x5⟩
              case measure => simp [intOf]; omega
            · obtain rfl : k = gn := by omega
              have et : g.take k = g := List.take_of_length_le (by have := hgl.out; omega)
              rw [et] at hz
              go_wp2_with fail
              go_roundw
              case rel => exact ⟨j + 1, giveL sA g, by omega, by go_num, HN, (hz.eq (show _ = irow (.slice G k gc) g * (frA f (giveL sA g) * (mrow (.slice (some ⟨bL, 0, none⟩) LL.length c) LL * old w w.heap.size)) by ac_rfl)).right, hxz⟩
              case measure => simp [intOf]; omega
        · obtain rfl : j = LL.length := by omega
          obtain ⟨ok2, wf2, n2, lk2⟩ := HS.out
          rw [List.drop_length] at lk2
          have hfr := (lk_empty wf2 ok2.inv lk2).2
          rw [n2] at hfr
          have HF := Lib.hid (fun R w h => freeA f s2 R w h)
          generalize s2.frees.length = nf at *
          clear ok2 wf2 n2 lk2 HS
          have hnf : ((nf : Int) == N - 1) = true := by simp; omega
          have hnf2 : (nf : Int) = N - 1 := by omega
          go_wp2_with fail
          refine (HF.out _ _ hz).mono ?_; rintro e w9 ⟨rfl, rfl⟩
          go_wp2_with fail
          go_ret
          exact ⟨by first | rfl | (rw [hnf]; done) | (rw [hnf2]; simp; done) | (simp [hnf2]; done), below_of1 hz.right.right hxz⟩
      --E]
end Go.Proofs.Ytegkimecdonfgaa
