/- A list of mappings is all ways: the plain law, with no program in sight. -/
import Derived.Test.YtmfheghbgihdmaaSep
namespace Go.Proofs.Ytmfheghbgihdmaa
open Go.RowKit
theorem pow8_succ (n : Nat) : pow8 (n + 1) = 8 * pow8 n := rfl
theorem pow8_pos' : ∀ n : Nat, 0 < pow8 n
  | 0 => by decide
  | n + 1 => by have := pow8_pos' n; rw [pow8_succ]; omega
theorem dec_leaf {w l : Int} (hc : decC w l = 0) (hl : (decE w l).leaf = true) : (decE w l).there = true ∧ 0 ≤ l ∧ l < 3 ∧ span l = pow8 l.toNat ∧ entFault (decE w l) l = 0 := by
  have hf := (enc_dec hc).1
  have ht : (decE w l).there = true := by
    cases h : (decE w l).there with
    | true => rfl
    | false =>
      have := entFault_not hf h
      rw [this] at hl
      cases hl
  have hk := entOk_of hf ht
  have h3 := (hk.leaf hl).1
  have h0 := hk.l0
  refine ⟨ht, h0, h3, ?_, hf⟩
  have : l = 0 ∨ l = 1 ∨ l = 2 := by omega
  rcases this with rfl | rfl | rfl <;> rfl
/-- What the i-th entry of a table gives to a list. -/
def contr (s : Ms) (L : Nat) (t a : Int) (i : Nat) : List Mp :=
  let e := decE (wordV s t i) L
  if e.leaf = true then [leafMap e L ((a * 8 + i) * pow8 L)] else if e.there = true then mapsOf (subV s L e.frame (a * 8 + i)).vs else []
def contrT (s : Ms) (L : Nat) (t a : Int) (i : Nat) : List Int :=
  let e := decE (wordV s t i) L
  if e.there = true ∧ e.leaf = false then e.frame :: tabsOf (subV s L e.frame (a * 8 + i)).vs else []
theorem mapsOf_cons (v : Vis) (l : List Vis) : mapsOf (v :: l) = (if v.e.leaf = true then [leafMap v.e v.lev (v.at_ * pow8 v.lev.toNat)] else []) ++ mapsOf l := by
  unfold mapsOf
  rw [List.filterMap_cons]
  split <;> rename_i h <;> (split at h <;> simp_all)
theorem mapsOf_append (a b : List Vis) : mapsOf (a ++ b) = mapsOf a ++ mapsOf b := List.filterMap_append
theorem tabsOf_cons (v : Vis) (l : List Vis) : tabsOf (v :: l) = (if v.e.there = true ∧ v.e.leaf = false then [v.e.frame] else []) ++ tabsOf l := by
  unfold tabsOf
  rw [List.filterMap_cons]
  split <;> rename_i h <;> (split at h <;> simp_all)
theorem tabsOf_append (a b : List Vis) : tabsOf (a ++ b) = tabsOf a ++ tabsOf b := List.filterMap_append
/-- A look over a table that told no code: each entry is one, each table below told none, and what it gives is what they give. -/
theorem scan_ok (s : Ms) (L : Nat) (t a : Int) : ∀ is : List Nat, (scanV s L t a (subV s L) is).code = 0 →
    (∀ i ∈ is, decC (wordV s t i) L = 0 ∧ ((decE (wordV s t i) L).there = true ∧ (decE (wordV s t i) L).leaf = false → (subV s L (decE (wordV s t i) L).frame (a * 8 + i)).code = 0)) ∧
    mapsOf (scanV s L t a (subV s L) is).vs = is.flatMap (contr s L t a) ∧ tabsOf (scanV s L t a (subV s L) is).vs = is.flatMap (contrT s L t a)
  | [], _ => ⟨fun i h => (by cases h), rfl, rfl⟩
  | i :: is, hc => by
    unfold scanV at hc ⊢
    by_cases hd : decC (wordV s t i) L = 0
    · rw [if_neg (by rw [hd]; simp)] at hc ⊢
      dsimp only at hc ⊢
      by_cases he : (decE (wordV s t i) L).there = true ∧ (decE (wordV s t i) L).leaf = false
      · rw [if_pos he] at hc ⊢
        by_cases hr : (subV s L (decE (wordV s t i) L).frame (a * 8 + i)).code = 0
        · rw [if_neg (by rw [hr]; simp)] at hc ⊢
          obtain ⟨h1, h2, h3⟩ := scan_ok s L t a is hc
          refine ⟨fun j hj => ?_, ?_, ?_⟩
          · rcases List.mem_cons.1 hj with rfl | hj
            · exact ⟨hd, fun _ => hr⟩
            · exact h1 j hj
          · rw [mapsOf_cons, mapsOf_append, h2, List.flatMap_cons]
            show _ ++ (_ ++ _) = contr s L t a i ++ _
            unfold contr
            dsimp only
            rw [he.2, he.1]
            simp
          · rw [tabsOf_cons, tabsOf_append, h3, List.flatMap_cons]
            show _ ++ (_ ++ _) = contrT s L t a i ++ _
            unfold contrT
            dsimp only
            rw [if_pos he, if_pos he]
            simp
        · rw [if_pos hr] at hc
          exact absurd hc hr
      · rw [if_neg he] at hc ⊢
        rw [if_neg (by simp)] at hc ⊢
        obtain ⟨h1, h2, h3⟩ := scan_ok s L t a is hc
        refine ⟨fun j hj => ?_, ?_, ?_⟩
        · rcases List.mem_cons.1 hj with rfl | hj
          · exact ⟨hd, fun h => absurd h he⟩
          · exact h1 j hj
        · rw [mapsOf_cons, List.nil_append, h2, List.flatMap_cons]
          show _ ++ _ = contr s L t a i ++ _
          unfold contr
          dsimp only
          by_cases hf : (decE (wordV s t i) L).leaf = true
          · rw [if_pos hf, if_pos hf]
            simp
          · rw [if_neg hf, if_neg hf, if_neg (fun ht => he ⟨ht, by simpa using hf⟩)]
        · rw [tabsOf_cons, List.nil_append, h3, List.flatMap_cons]
          show _ ++ _ = contrT s L t a i ++ _
          unfold contrT
          dsimp only
          rw [if_neg he, if_neg he]
    · rw [if_pos hd] at hc
      exact absurd hc hd
theorem flat8 {α : Type} (f : Nat → List α) (k : Nat) (hk : k < 8) (h : ∀ i, i < 8 → i ≠ k → f i = []) : (List.range 8).flatMap f = f k := by
  have e : List.range 8 = [0, 1, 2, 3, 4, 5, 6, 7] := rfl
  rw [e]
  have hk' : k = 0 ∨ k = 1 ∨ k = 2 ∨ k = 3 ∨ k = 4 ∨ k = 5 ∨ k = 6 ∨ k = 7 := by omega
  rcases hk' with rfl | rfl | rfl | rfl | rfl | rfl | rfl | rfl <;>
    simp (config := { decide := true }) only [List.flatMap_cons, List.flatMap_nil, h 0, h 1, h 2, h 3, h 4, h 5, h 6, h 7, List.nil_append, List.append_nil]
theorem flat8_nil {α : Type} (f : Nat → List α) (h : ∀ i, i < 8 → f i = []) : (List.range 8).flatMap f = [] := by
  rw [List.flatMap_eq_nil_iff]
  intro x hx
  exact h x (List.mem_range.1 hx)
theorem filter_flat {α β : Type} (p : β → Bool) (f : α → List β) (l : List α) : (l.flatMap f).filter p = l.flatMap fun x => (f x).filter p := by
  induction l with
  | nil => rfl
  | cons x l ih => rw [List.flatMap_cons, List.flatMap_cons, List.filter_append, ih]
/-- A leaf's mapping has just the pages whose ways lead to it. -/
theorem leaf_over {w : Int} {L : Nat} (hc : decC w L = 0) (hl : (decE w L).leaf = true) {b p : Int} (hb : 0 ≤ b) (hb' : b * pow8 L < 4096) (hp : 0 ≤ p) :
    over (leafMap (decE w L) L (b * pow8 L)) p = decide (p / pow8 L = b) ∧ (p / pow8 L = b → p < 4096 → leafMap (decE w L) L (b * pow8 L) = leafMap (decE w L) L p) := by
  obtain ⟨ht, h0, h3, hs, hf⟩ := dec_leaf hc hl
  rw [Int.toNat_natCast] at hs
  have hpos := pow8_pos' L
  have hbp : 0 ≤ b * pow8 L := Int.mul_nonneg hb (Int.le_of_lt hpos)
  have e1 : leafMap (decE w L) L (b * pow8 L) = ⟨b * pow8 L, L, (decE w L).frame, (decE w L).rights⟩ := by
    unfold leafMap
    rw [if_pos ⟨hf, hl, hbp, hb'⟩, hs, Int.mul_ediv_cancel _ (by omega)]
  have hL : L = 0 ∨ L = 1 ∨ L = 2 := by omega
  rw [e1]
  constructor
  · unfold over
    dsimp only
    rw [hs]
    rcases hL with rfl | rfl | rfl
    · show (decide (b * 1 ≤ p) && decide (p - b * 1 < 1)) = decide (p / 1 = b)
      by_cases h : p / 1 = b
      · rw [decide_eq_true h, decide_eq_true (by omega), decide_eq_true (by omega)]; rfl
      · rw [decide_eq_false h, Bool.and_eq_false_iff, decide_eq_false_iff_not, decide_eq_false_iff_not]; omega
    · show (decide (b * 8 ≤ p) && decide (p - b * 8 < 8)) = decide (p / 8 = b)
      by_cases h : p / 8 = b
      · rw [decide_eq_true h, decide_eq_true (by omega), decide_eq_true (by omega)]; rfl
      · rw [decide_eq_false h, Bool.and_eq_false_iff, decide_eq_false_iff_not, decide_eq_false_iff_not]; omega
    · show (decide (b * 64 ≤ p) && decide (p - b * 64 < 64)) = decide (p / 64 = b)
      by_cases h : p / 64 = b
      · rw [decide_eq_true h, decide_eq_true (by omega), decide_eq_true (by omega)]; rfl
      · rw [decide_eq_false h, Bool.and_eq_false_iff, decide_eq_false_iff_not, decide_eq_false_iff_not]; omega
  · intro h hp2
    unfold leafMap
    rw [if_pos ⟨hf, hl, hp, hp2⟩, hs, h]
theorem bnd {L : Nat} (hL : L ≤ 3) {a : Int} (_ : 0 ≤ a) (h : a * pow8 (L + 1) < 4096) {i : Nat} (hi : i < 8) : (a * 8 + i) * pow8 L < 4096 := by
  have : L = 0 ∨ L = 1 ∨ L = 2 ∨ L = 3 := by omega
  rcases this with rfl | rfl | rfl | rfl <;> simp [pow8] at h ⊢ <;> omega
theorem index_eq {p : Int} (h0 : 0 ≤ p) (h1 : p < 4096) {L : Nat} (hL : L ≤ 3) : index p L = ((p / pow8 L % 8).toNat : Int) := by
  unfold index
  rw [if_pos ⟨h0, h1, by omega, by omega⟩, Int.toNat_natCast]
  omega
/-- One table of it. -/
theorem list_step (s : Ms) (p : Int) (hp0 : 0 ≤ p) (hp1 : p < 4096) (L : Nat) (hL : L ≤ 3) (t a : Int) (acc : List Int)
    (ih : ∀ K, L = K + 1 → ∀ (t a : Int) (acc : List Int), (eachV s K t a).code = 0 → 0 ≤ a → a * pow8 (K + 1) < 4096 →
      (p / pow8 (K + 1) ≠ a → (mapsOf (eachV s K t a).vs).filter (fun m => over m p) = []) ∧
      (p / pow8 (K + 1) = a → (wayA s p K t acc).code = 0 ∧
        (mapsOf (eachV s K t a).vs).filter (fun m => over m p) = (if (wayA s p K t acc).e.leaf = true then [leafMap (wayA s p K t acc).e (wayA s p K t acc).lev p] else []) ∧
        (wayA s p K t acc).e.there = (wayA s p K t acc).e.leaf ∧ ∀ x ∈ (wayA s p K t acc).tabs, x ∈ acc ∨ x = t ∨ x ∈ tabsOf (eachV s K t a).vs))
    (hc : (eachV s L t a).code = 0) (ha : 0 ≤ a) (hb : a * pow8 (L + 1) < 4096) :
    (p / pow8 (L + 1) ≠ a → (mapsOf (eachV s L t a).vs).filter (fun m => over m p) = []) ∧
    (p / pow8 (L + 1) = a → (wayA s p L t acc).code = 0 ∧
      (mapsOf (eachV s L t a).vs).filter (fun m => over m p) = (if (wayA s p L t acc).e.leaf = true then [leafMap (wayA s p L t acc).e (wayA s p L t acc).lev p] else []) ∧
      (wayA s p L t acc).e.there = (wayA s p L t acc).e.leaf ∧ ∀ x ∈ (wayA s p L t acc).tabs, x ∈ acc ∨ x = t ∨ x ∈ tabsOf (eachV s L t a).vs) := by
  rw [eachV_eq] at hc ⊢
  cases hh : s.has t with
  | false => rw [hh] at hc; cases hc
  | true =>
    rw [hh] at hc
    rw [if_neg (by simp)] at hc ⊢
    obtain ⟨h1, h2, h3⟩ := scan_ok s L t a (List.range 8) hc
    rw [h2, h3]
    have hdiv : p / pow8 (L + 1) = p / pow8 L / 8 := by
      have := pow8_pos' L
      rw [pow8_succ, Int.mul_comm, Int.ediv_ediv_of_nonneg (by omega)]
    have hpos := pow8_pos' L
    have hq : 0 ≤ p / pow8 L := Int.ediv_nonneg hp0 (by omega)
    have hix := index_eq hp0 hp1 hL
    rw [hdiv, filter_flat]
    generalize hqq : p / pow8 L = q at *
    -- what does not lie on the way gives nothing
    have hoff : ∀ i : Nat, i < 8 → q ≠ a * 8 + i → (contr s L t a i).filter (fun m => over m p) = [] := fun i hi hne => by
      obtain ⟨hd, hsub⟩ := h1 i (List.mem_range.2 hi)
      have hbi := bnd hL ha hb hi
      unfold contr
      dsimp only
      split
      · rename_i hl
        have := (leaf_over hd hl (show 0 ≤ a * 8 + (i : Int) by omega) hbi hp0).1
        rw [hqq, decide_eq_false hne] at this
        rw [List.filter_cons, this]
        rfl
      · rename_i hl
        split
        · rename_i ht
          have hl' : (decE (wordV s t i) L).leaf = false := by simpa using hl
          have hcs := hsub ⟨ht, hl'⟩
          cases L with
          | zero => cases hcs
          | succ K =>
            refine (ih K rfl (decE (wordV s t i) (K + 1 : Nat)).frame (a * 8 + i) [] hcs (by omega) hbi).1 ?_
            rw [hqq]
            exact hne
        · rfl
    refine ⟨fun hne => flat8_nil _ fun i hi => hoff i hi (by omega), fun he => ?_⟩
    have hi8 : (q % 8).toNat < 8 := by omega
    have hon : q = a * 8 + ((q % 8).toNat : Int) := by omega
    rw [flat8 _ (q % 8).toNat hi8 (fun i hi hne => hoff i hi (by omega))]
    obtain ⟨hd, hsub⟩ := h1 _ (List.mem_range.2 hi8)
    have hbi := bnd hL ha hb hi8
    have hct : ∀ x ∈ contrT s L t a (q % 8).toNat, x ∈ (List.range 8).flatMap (contrT s L t a) := fun x hx => List.mem_flatMap.2 ⟨_, List.mem_range.2 hi8, hx⟩
    have hdw := hd
    rw [← hix] at hdw
    by_cases hend : (decE (wordV s t (index p L)) L).there = false ∨ (decE (wordV s t (index p L)) L).leaf = true
    · rw [wayA_end hh hdw hend]
      refine ⟨rfl, ?_, ?_, fun x hx => ?_⟩
      · rw [hix]
        unfold contr
        dsimp only
        by_cases hl : (decE (wordV s t ((q % 8).toNat : Nat)) L).leaf = true
        · rw [if_pos hl, if_pos hl]
          have := leaf_over hd hl (show 0 ≤ a * 8 + ((q % 8).toNat : Int) by omega) hbi hp0
          rw [hqq, decide_eq_true hon] at this
          rw [List.filter_cons, this.1, this.2 hon hp1]
          rfl
        · rw [if_neg hl, if_neg hl]
          rw [hix] at hend
          have ht : (decE (wordV s t ((q % 8).toNat : Nat)) L).there = false := by
            rcases hend with h | h
            · exact h
            · exact absurd h hl
          rw [if_neg (by rw [ht]; simp)]
          rfl
      · rcases hend with h | h
        · show (decE _ _).there = (decE _ _).leaf
          rw [h]
          cases hl : (decE (wordV s t (index p L)) L).leaf with
          | false => rfl
          | true => have := (dec_leaf hdw hl).1; rw [h] at this; cases this
        · show (decE _ _).there = (decE _ _).leaf
          rw [h, (dec_leaf hdw h).1]
      · rcases List.mem_append.1 hx with hx | hx
        · exact .inl hx
        · exact .inr (.inl (List.mem_singleton.1 hx))
    · obtain ⟨K, hK, e⟩ := wayA_on (acc := acc) hh hdw hend
      rw [e]
      have hne := hend
      rw [not_or] at hne
      have ht : (decE (wordV s t (index p L)) L).there = true := by simpa using hne.1
      have hl : (decE (wordV s t (index p L)) L).leaf = false := by simpa using hne.2
      subst hK
      rw [hix] at ht hl ⊢
      have hcs := hsub ⟨ht, hl⟩
      have hi := (ih K rfl (decE (wordV s t ((q % 8).toNat : Nat)) (K + 1 : Nat)).frame (a * 8 + ((q % 8).toNat : Int)) (acc ++ [t]) hcs (by omega) hbi).2 (by rw [hqq]; exact hon)
      obtain ⟨i1, i2, i3, i4⟩ := hi
      refine ⟨i1, ?_, i3, fun x hx => ?_⟩
      · unfold contr
        dsimp only
        rw [if_neg (by rw [hl]; simp), if_pos ht]
        exact i2
      · have hcT : contrT s (K + 1) t a (q % 8).toNat = (decE (wordV s t ((q % 8).toNat : Nat)) (K + 1 : Nat)).frame :: tabsOf (subV s (K + 1) (decE (wordV s t ((q % 8).toNat : Nat)) (K + 1 : Nat)).frame (a * 8 + ((q % 8).toNat : Int))).vs := by
          unfold contrT
          dsimp only
          rw [if_pos ⟨ht, hl⟩]
        rcases i4 x hx with h | h | h
        · rcases List.mem_append.1 h with h | h
          · exact .inl h
          · exact .inr (.inl (List.mem_singleton.1 h))
        · exact .inr (.inr (hct x (by rw [hcT, h]; exact List.mem_cons_self ..)))
        · exact .inr (.inr (hct x (by rw [hcT]; exact List.mem_cons_of_mem _ h)))
/-- A list of mappings is all ways. -/
theorem list_way (s : Ms) (p : Int) (hp0 : 0 ≤ p) (hp1 : p < 4096) : ∀ (L : Nat), L ≤ 3 → ∀ (t a : Int) (acc : List Int), (eachV s L t a).code = 0 → 0 ≤ a → a * pow8 (L + 1) < 4096 →
    (p / pow8 (L + 1) ≠ a → (mapsOf (eachV s L t a).vs).filter (fun m => over m p) = []) ∧
    (p / pow8 (L + 1) = a → (wayA s p L t acc).code = 0 ∧
      (mapsOf (eachV s L t a).vs).filter (fun m => over m p) = (if (wayA s p L t acc).e.leaf = true then [leafMap (wayA s p L t acc).e (wayA s p L t acc).lev p] else []) ∧
      (wayA s p L t acc).e.there = (wayA s p L t acc).e.leaf ∧ ∀ x ∈ (wayA s p L t acc).tabs, x ∈ acc ∨ x = t ∨ x ∈ tabsOf (eachV s L t a).vs) := by
  intro L
  induction L with
  | zero =>
    intro hL t a acc hc ha hb
    exact list_step s p hp0 hp1 0 hL t a acc (fun K hK => by omega) hc ha hb
  | succ L ih =>
    intro hL t a acc hc ha hb
    exact list_step s p hp0 hp1 (L + 1) hL t a acc (fun K hK => by
      have e : L = K := by omega
      subst e
      exact ih (by omega)) hc ha hb
end Go.Proofs.Ytmfheghbgihdmaa
namespace Go.Proofs.Ytmfheghbgihdmaa
open Go.RowKit
/-- The entry on the way to a page in a table of a level. -/
def eOf (s : Ms) (p t : Int) (L : Nat) : En := decE (wordV s t (index p L)) L
/-- Does the way go on below it? -/
def goB (s : Ms) (p t : Int) (L : Nat) : Bool := s.has t && (decide (decC (wordV s t (index p L)) L = 0) && ((eOf s p t L).there && !(eOf s p t L).leaf))
/-- The table on the way to a page, so many levels below the root. -/
def tabD (s : Ms) (r p : Int) : Nat → Option Int
  | 0 => some r
  | d + 1 => (tabD s r p d).bind fun u => if goB s p u (3 - d) = true then some (eOf s p u (3 - d)).frame else none
/-- The tables on the way, so many. -/
def tabsD (s : Ms) (r p : Int) (n : Nat) : List Int := (List.range n).map fun d => (tabD s r p d).getD 0
/-- The way ends in a table that is in use, at a word that is one and leads no further. -/
structure Ends (s : Ms) (r p : Int) (d : Nat) (t : Int) : Prop where
  le : d ≤ 3
  tab : tabD s r p d = some t
  use : s.has t = true
  dec : decC (wordV s t (index p (3 - d : Nat))) (3 - d : Nat) = 0
  no : goB s p t (3 - d) = false
theorem tabsD_succ {s : Ms} {r p t : Int} {d : Nat} (h : tabD s r p d = some t) : tabsD s r p (d + 1) = tabsD s r p d ++ [t] := by
  unfold tabsD
  rw [List.range_succ, List.map_append, List.map_singleton, h]
  rfl
theorem tabsD_len (s : Ms) (r p : Int) (n : Nat) : (tabsD s r p n).length = n := by simp [tabsD]
theorem tabD_succ {s : Ms} {r p t : Int} {d : Nat} : tabD s r p (d + 1) = some t ↔ ∃ u, tabD s r p d = some u ∧ goB s p u (3 - d) = true ∧ (eOf s p u (3 - d)).frame = t := by
  show (tabD s r p d).bind _ = some t ↔ _
  cases tabD s r p d with
  | none => simp
  | some u =>
    simp only [Option.bind_some, Option.some.injEq, exists_eq_left']
    split
    · rename_i h; simp [h]
    · rename_i h; simp [h]
theorem tabD_none {s : Ms} {r p t : Int} {d : Nat} (h : tabD s r p d = some t) (hg : goB s p t (3 - d) = false) : tabD s r p (d + 1) = none := by
  show (tabD s r p d).bind _ = none
  rw [h]
  simp [hg]
theorem tabD_none_mono {s : Ms} {r p : Int} {d : Nat} (h : tabD s r p d = none) : ∀ e, d ≤ e → tabD s r p e = none := by
  intro e he
  induction he with
  | refl => exact h
  | step _ ih => show (tabD s r p _).bind _ = none; rw [ih]; rfl
theorem tabD_some_mono {s : Ms} {r p t : Int} {e : Nat} (h : tabD s r p e = some t) {d : Nat} (hd : d ≤ e) : ∃ u, tabD s r p d = some u := by
  cases hh : tabD s r p d with
  | some u => exact ⟨u, rfl⟩
  | none => rw [tabD_none_mono hh e hd] at h; cases h
theorem goB_iff {s : Ms} {p t : Int} {L : Nat} : goB s p t L = true ↔ s.has t = true ∧ decC (wordV s t (index p L)) L = 0 ∧ (eOf s p t L).there = true ∧ (eOf s p t L).leaf = false := by
  unfold goB
  simp only [Bool.and_eq_true, decide_eq_true_eq, Bool.not_eq_true']
theorem Ends.unique {s : Ms} {r p t u : Int} {d e : Nat} (h : Ends s r p d t) (k : Ends s r p e u) : d = e ∧ t = u := by
  have h1 := tabD_none h.tab h.no
  have h2 := tabD_none k.tab k.no
  have hde : d = e := by
    rcases Nat.lt_trichotomy d e with hlt | rfl | hlt
    · have := tabD_none_mono h1 e hlt; rw [k.tab] at this; cases this
    · rfl
    · have := tabD_none_mono h2 d hlt; rw [h.tab] at this; cases this
  subst hde
  have := h.tab.symm.trans k.tab
  injection this with this
  exact ⟨rfl, this⟩
/-- The end of a way: there is nothing, or a leaf. -/
theorem Ends.stop {s : Ms} {r p t : Int} {d : Nat} (h : Ends s r p d t) : (eOf s p t (3 - d)).there = false ∨ (eOf s p t (3 - d)).leaf = true := by
  have h1 := h.no
  unfold goB at h1
  rw [h.use, decide_eq_true h.dec] at h1
  simp only [Bool.true_and, Bool.and_eq_false_iff, Bool.not_eq_false'] at h1
  exact h1
theorem wayA_ends {s : Ms} {r p : Int} : ∀ (L d : Nat) (t : Int), L + d = 3 → tabD s r p d = some t → ∀ (e : Nat) (u : Int), d ≤ e → Ends s r p e u →
    wayA s p L t (tabsD s r p d) = ⟨0, tabsD s r p (e + 1), ((3 - e : Nat) : Int), eOf s p u (3 - e)⟩ := by
  intro L
  induction L with
  | zero =>
    intro d t hL ht e u hde he
    have := he.le
    obtain rfl : e = d := by omega
    obtain rfl : t = u := by have := ht.symm.trans he.tab; injection this
    obtain rfl : e = 3 := by omega
    rw [wayA_end he.use he.dec he.stop, tabsD_succ ht]
    rfl
  | succ L ih =>
    intro d t hL ht e u hde he
    by_cases hd : d = e
    · subst hd
      obtain rfl : t = u := by have := ht.symm.trans he.tab; injection this
      have e3 : 3 - d = L + 1 := by omega
      have hu := he.use
      have hc := he.dec
      have hs := he.stop
      rw [e3] at hc hs ⊢
      rw [wayA_end hu hc hs, tabsD_succ ht]
      rfl
    · obtain ⟨v, hv⟩ := tabD_some_mono he.tab (show d + 1 ≤ e by omega)
      obtain ⟨t', h1, h2, h3⟩ := tabD_succ.1 hv
      obtain rfl : t' = t := by have := h1.symm.trans ht; injection this
      have e3 : 3 - d = L + 1 := by omega
      rw [e3] at h2 h3
      obtain ⟨g1, g2, g3, g4⟩ := goB_iff.1 h2
      have hne : ¬ ((decE (wordV s t' (index p (L + 1 : Nat))) (L + 1 : Nat)).there = false ∨ (decE (wordV s t' (index p (L + 1 : Nat))) (L + 1 : Nat)).leaf = true) := by
        unfold eOf at g3 g4
        rw [g3, g4]
        simp
      obtain ⟨K, hK, ew⟩ := wayA_on (acc := tabsD s r p d) g1 g2 hne
      obtain rfl : L = K := by omega
      rw [ew, ← tabsD_succ ht]
      have h3' : (decE (wordV s t' (index p (L + 1 : Nat))) (L + 1 : Nat)).frame = v := h3
      rw [h3']
      exact ih (d + 1) v (by omega) hv e u (by omega) he
theorem way_ends {s : Ms} {r p t : Int} {d : Nat} (h0 : 0 ≤ p) (h1 : p < 4096) (h : Ends s r p d t) : way s r p = ⟨0, tabsD s r p (d + 1), ((3 - d : Nat) : Int), eOf s p t (3 - d)⟩ := by
  unfold way
  rw [if_pos (by unfold hasB; rw [decide_eq_true h0, decide_eq_true h1]; rfl)]
  exact wayA_ends 3 0 r rfl rfl d t (Nat.zero_le _) h
/-! ### Prefixes -/
theorem pow8_pos (n : Nat) : 0 < pow8 n := pow8_pos' n
theorem div_up {p q : Int} {a b : Nat} (hab : a ≤ b) (h : p / pow8 a = q / pow8 a) : p / pow8 b = q / pow8 b := by
  induction hab with
  | refl => exact h
  | @step n _ ih =>
    have := pow8_pos n
    rw [pow8_succ, Int.mul_comm, ← Int.ediv_ediv_of_nonneg (by omega), ← Int.ediv_ediv_of_nonneg (by omega), ih]
/-- Places in a table: the same for pages of one prefix. -/
theorem index_div {p q : Int} (hp : 0 ≤ p ∧ p < 4096) (hq : 0 ≤ q ∧ q < 4096) {L : Nat} (h : p / pow8 L = q / pow8 L) : index p L = index q L := by
  unfold index
  by_cases hL : L < 4
  · rw [if_pos ⟨hp.1, hp.2, by omega, by omega⟩, if_pos ⟨hq.1, hq.2, by omega, by omega⟩, Int.toNat_natCast, h]
  · rw [if_neg (by omega), if_neg (by omega)]
theorem div_of_index {p q : Int} (hp : 0 ≤ p ∧ p < 4096) (hq : 0 ≤ q ∧ q < 4096) {L : Nat} (hL : L ≤ 3) (h : p / pow8 (L + 1) = q / pow8 (L + 1)) (hi : index p L = index q L) : p / pow8 L = q / pow8 L := by
  have h0 := pow8_pos L
  have e : ∀ x : Int, x / pow8 (L + 1) = x / pow8 L / 8 := fun x => by rw [pow8_succ, Int.mul_comm, ← Int.ediv_ediv_of_nonneg (by omega)]
  rw [e, e] at h
  unfold index at hi
  rw [if_pos ⟨hp.1, hp.2, by omega, by omega⟩, if_pos ⟨hq.1, hq.2, by omega, by omega⟩, Int.toNat_natCast] at hi
  omega
theorem index_range {p : Int} (hp : 0 ≤ p ∧ p < 4096) {L : Nat} (hL : L ≤ 3) : 0 ≤ index p L ∧ index p L < 8 := by
  unfold index
  rw [if_pos ⟨hp.1, hp.2, by omega, by omega⟩]
  omega
theorem div_top {p q : Int} (hp : 0 ≤ p ∧ p < 4096) (hq : 0 ≤ q ∧ q < 4096) : p / pow8 4 = q / pow8 4 := by
  have : pow8 4 = 4096 := rfl
  rw [this]
  omega
theorem index_val {p : Int} (hp : 0 ≤ p ∧ p < 4096) {L : Nat} (hL : L ≤ 3) : index p L = p / pow8 L % 8 := by
  unfold index
  rw [if_pos ⟨hp.1, hp.2, by omega, by omega⟩, Int.toNat_natCast]
/-- A page with a given place behind a prefix. -/
theorem page_at {p : Int} (hp : 0 ≤ p ∧ p < 4096) {L : Nat} (hL : L ≤ 3) (i : Nat) (hi : i < 8) : ∃ q, (0 ≤ q ∧ q < 4096) ∧ q / pow8 (L + 1) = p / pow8 (L + 1) ∧ index q L = i ∧ q % pow8 L = 0 := by
  have h : (0 ≤ (p / pow8 (L + 1) * 8 + i) * pow8 L ∧ (p / pow8 (L + 1) * 8 + i) * pow8 L < 4096) ∧ (p / pow8 (L + 1) * 8 + i) * pow8 L / pow8 (L + 1) = p / pow8 (L + 1) ∧ (p / pow8 (L + 1) * 8 + i) * pow8 L / pow8 L % 8 = i ∧ (p / pow8 (L + 1) * 8 + i) * pow8 L % pow8 L = 0 := by
    have hL' : L = 0 ∨ L = 1 ∨ L = 2 ∨ L = 3 := by omega
    rcases hL' with rfl | rfl | rfl | rfl <;> simp only [pow8] <;> omega
  exact ⟨(p / pow8 (L + 1) * 8 + i) * pow8 L, h.1, h.2.1, (index_val h.1 hL).trans h.2.2.1, h.2.2.2⟩
/-- The same prefix: the same table. -/
theorem tabD_prefix (s : Ms) (r : Int) {p q : Int} (hp : 0 ≤ p ∧ p < 4096) (hq : 0 ≤ q ∧ q < 4096) : ∀ (d : Nat), d ≤ 4 → p / pow8 (4 - d) = q / pow8 (4 - d) → tabD s r p d = tabD s r q d := by
  intro d
  induction d with
  | zero => intro _ _; rfl
  | succ d ih =>
    intro hd h
    have h3 : p / pow8 (3 - d) = q / pow8 (3 - d) := by rw [show 4 - (d + 1) = 3 - d by omega] at h; exact h
    have hi := index_div hp hq h3
    show (tabD s r p d).bind _ = (tabD s r q d).bind _
    rw [ih (by omega) (div_up (by omega) h)]
    congr 1
    funext u
    unfold goB eOf
    rw [hi]
end Go.Proofs.Ytmfheghbgihdmaa
namespace Go.Proofs.Ytmfheghbgihdmaa
open Go.RowKit
def InP (p : Int) : Prop := 0 ≤ p ∧ p < 4096
/-- A table of the root's. -/
def InT (s : Ms) (r t : Int) : Prop := ∃ p d, InP p ∧ d ≤ 3 ∧ tabD s r p d = some t
/-- The tables from a root on are a tree; what is in use is theirs, or goes; each but those of X has something in it. -/
structure Wf (s : Ms) (r : Int) (gone : List Int) (X : Int → Prop) : Prop where
  ends : ∀ p, InP p → ∃ d t, Ends s r p d t
  inj : ∀ p q d e t, InP p → InP q → d ≤ 3 → e ≤ 3 → tabD s r p d = some t → tabD s r q e = some t → d = e ∧ p / pow8 (4 - d) = q / pow8 (4 - d)
  full : ∀ p d t, InP p → d < 3 → tabD s r p (d + 1) = some t → X t ∨ ∃ i : Nat, i < 8 ∧ wordV s t i ≠ 0
  use : ∀ k : Nat, s.tk k = true ↔ InT s r k ∨ (k : Int) ∈ gone
  nd : gone.Nodup
  gz : ∀ g ∈ gone, 0 ≤ g ∧ ∀ i : Nat, i < 8 → wordV s g i = 0
  gt : ∀ g ∈ gone, ¬ InT s r g
section
variable {s : Ms} {r : Int} {gone : List Int} {X : Int → Prop}
theorem Wf.mono {Y : Int → Prop} (h : Wf s r gone X) (hxy : ∀ t, X t → Y t) : Wf s r gone Y :=
  ⟨h.ends, h.inj, fun p d t a b c => (h.full p d t a b c).imp (hxy t) id, h.use, h.nd, h.gz, h.gt⟩
/-- A table on the way: it is in use, and its word is one. -/
theorem Wf.at_ (h : Wf s r gone X) {p t : Int} {d : Nat} (hp : InP p) (hd : d ≤ 3) (ht : tabD s r p d = some t) :
    s.has t = true ∧ decC (wordV s t (index p (3 - d : Nat))) (3 - d : Nat) = 0 := by
  cases hg : goB s p t (3 - d) with
  | true => have := goB_iff.1 hg; exact ⟨this.1, this.2.1⟩
  | false =>
    obtain ⟨e, u, he⟩ := h.ends p hp
    have h1 := tabD_none ht hg
    have hle : e ≤ d := by
      rcases Nat.lt_or_ge d e with hlt | hge
      · have := tabD_none_mono h1 e hlt; rw [he.tab] at this; cases this
      · exact hge
    rcases Nat.lt_or_ge e d with hlt | hge
    · have := tabD_none_mono (tabD_none he.tab he.no) d hlt; rw [ht] at this; cases this
    · obtain rfl : e = d := by omega
      obtain rfl : t = u := by have := ht.symm.trans he.tab; injection this
      exact ⟨he.use, he.dec⟩
theorem Wf.nat (h : Wf s r gone X) {p t : Int} {d : Nat} (hp : InP p) (hd : d ≤ 3) (ht : tabD s r p d = some t) : 0 ≤ t ∧ t < s.n ∧ s.tk t.toNat = true := Ms.has_iff.1 (h.at_ hp hd ht).1
theorem InT.mk {p t : Int} {d : Nat} (hp : InP p) (hd : d ≤ 3) (ht : tabD s r p d = some t) : InT s r t := ⟨p, d, hp, hd, ht⟩
theorem Wf.dec (h : Wf s r gone X) {p t : Int} {d : Nat} (hp : InP p) (hd : d ≤ 3) (ht : tabD s r p d = some t) (i : Nat) (hi : i < 8) : decC (wordV s t i) (3 - d : Nat) = 0 := by
  obtain ⟨q, hq, hpre, hix, _⟩ := page_at hp (show 3 - d ≤ 3 by omega) i hi
  have e1 : tabD s r q d = some t := by
    rw [← ht]
    exact tabD_prefix s r hq hp d (by omega) (by rw [show 4 - d = 3 - d + 1 by omega]; exact hpre)
  have := (h.at_ hq hd e1).2
  rw [hix] at this
  exact this
/-- Where a way ends, so does that of each page of the same prefix. -/
theorem Ends.same {p q t : Int} {d : Nat} (hp : InP p) (hq : InP q) (h : Ends s r p d t) (hpre : q / pow8 (3 - d) = p / pow8 (3 - d)) : Ends s r q d t ∧ eOf s q t (3 - d) = eOf s p t (3 - d) := by
  have hi := index_div hq hp hpre
  have := h.le
  refine ⟨⟨h.le, ?_, h.use, by rw [hi]; exact h.dec, ?_⟩, by unfold eOf; rw [hi]⟩
  · rw [← h.tab]
    exact tabD_prefix s r hq hp d (by omega) (div_up (by omega) hpre)
  · have := h.no
    unfold goB eOf at this ⊢
    rw [hi]
    exact this
theorem wordV_setW {s : Ms} {t i u j : Int} {v : Int} (hu : 0 ≤ u) (ht : 0 ≤ t) (hi : 0 ≤ i) (hj : 0 ≤ j) : wordV (s.setW t.toNat i.toNat v) u j = if u = t ∧ j = i then v else wordV s u j := by
  show (if u.toNat = t.toNat ∧ j.toNat = i.toNat then v else s.wd u.toNat j.toNat) = _
  by_cases h : u = t ∧ j = i
  · rw [if_pos h, if_pos ⟨by rw [h.1], by rw [h.2]⟩]
  · rw [if_neg h, if_neg (by omega)]
    rfl
theorem has_setW (s : Ms) (t i : Nat) (v u : Int) : (s.setW t i v).has u = s.has u := rfl
/-! ### A word at the end of a way becomes another one that leads no further -/
section leaf
variable {p t v : Int} {d : Nat}
/-- s, where the word on the way to p in the table t is v. -/
abbrev putAt (s : Ms) (p t : Int) (d : Nat) (v : Int) : Ms := s.setW t.toNat (index p (3 - d : Nat)).toNat v
theorem slot (h : Wf s r gone X) (hp : InP p) (hd : d ≤ 3) (ht : tabD s r p d = some t) {q u : Int} {e : Nat} (hq : InP q) (he : e ≤ 3) (hu : tabD s r q e = some u) :
    (u = t ∧ index q (3 - e : Nat) = index p (3 - d : Nat)) ↔ (e = d ∧ q / pow8 (3 - d) = p / pow8 (3 - d)) := by
  constructor
  · rintro ⟨rfl, hi⟩
    obtain ⟨rfl, hpre⟩ := h.inj q p e d u hq hp he hd hu ht
    refine ⟨rfl, div_of_index hq hp (by omega) ?_ hi⟩
    rw [show 3 - e + 1 = 4 - e by omega]
    exact hpre
  · rintro ⟨rfl, hpre⟩
    have : tabD s r q e = tabD s r p e := tabD_prefix s r hq hp e (by omega) (div_up (by omega) hpre)
    rw [hu, ht] at this
    injection this with this
    exact ⟨this, index_div hq hp hpre⟩
theorem put_word (h : Wf s r gone X) (hp : InP p) (hd : d ≤ 3) (ht : tabD s r p d = some t) {q u : Int} {e : Nat} (hq : InP q) (he : e ≤ 3) (hu : tabD s r q e = some u) :
    wordV (putAt s p t d v) u (index q (3 - e : Nat)) = if e = d ∧ q / pow8 (3 - d) = p / pow8 (3 - d) then v else wordV s u (index q (3 - e : Nat)) := by
  have h1 := (h.nat hp hd ht).1
  have h2 := (h.nat hq he hu).1
  have i1 := index_range hp (show 3 - d ≤ 3 by omega)
  have i2 := index_range hq (show 3 - e ≤ 3 by omega)
  rw [wordV_setW h2 h1 i1.1 i2.1]
  have := slot h hp hd ht hq he hu
  by_cases hs : u = t ∧ index q (3 - e : Nat) = index p (3 - d : Nat)
  · rw [if_pos hs, if_pos (this.1 hs)]
  · rw [if_neg hs, if_neg (fun x => hs (this.2 x))]
def stopW (v : Int) (L : Nat) : Prop := decC v L = 0 ∧ ¬ ((decE v L).there = true ∧ (decE v L).leaf = false)
theorem put_tab (h : Wf s r gone X) (hp : InP p) (hd : d ≤ 3) (ht : tabD s r p d = some t) (hg : goB s p t (3 - d) = false) (hv : stopW v (3 - d)) {q : Int} (hq : InP q) :
    ∀ e, e ≤ 4 → tabD (putAt s p t d v) r q e = tabD s r q e := by
  intro e
  induction e with
  | zero => intro _; rfl
  | succ e ih =>
    intro he
    show (tabD (putAt s p t d v) r q e).bind _ = (tabD s r q e).bind _
    rw [ih (by omega)]
    cases hu : tabD s r q e with
    | none => rfl
    | some u =>
      have hw := put_word (v := v) h hp hd ht hq (show e ≤ 3 by omega) hu
      simp only [Option.bind_some]
      by_cases hs : e = d ∧ q / pow8 (3 - d) = p / pow8 (3 - d)
      · rw [if_pos hs] at hw
        obtain ⟨rfl, hpre⟩ := hs
        have g1 : goB (putAt s p t e v) q u (3 - e) = false := by
          unfold goB eOf
          rw [hw]
          have := hv.2
          cases h1 : (decE v (3 - e : Nat)).there <;> cases h2 : (decE v (3 - e : Nat)).leaf <;> simp_all
        have g2 : goB s q u (3 - e) = false := by
          have hix := index_div hq hp hpre
          obtain ⟨rfl, _⟩ := (slot h hp hd ht hq hd hu).2 ⟨rfl, hpre⟩
          unfold goB eOf at hg ⊢
          rw [hix]
          exact hg
        rw [g1, g2]
        simp
      · rw [if_neg hs] at hw
        unfold goB eOf
        rw [hw, has_setW]
theorem put_inT (h : Wf s r gone X) (hp : InP p) (hd : d ≤ 3) (ht : tabD s r p d = some t) (hg : goB s p t (3 - d) = false) (hv : stopW v (3 - d)) (u : Int) : InT (putAt s p t d v) r u ↔ InT s r u := by
  constructor
  · rintro ⟨q, e, hq, he, hu⟩
    rw [put_tab h hp hd ht hg hv hq e (by omega)] at hu
    exact ⟨q, e, hq, he, hu⟩
  · rintro ⟨q, e, hq, he, hu⟩
    rw [← put_tab h hp hd ht hg hv hq e (by omega)] at hu
    exact ⟨q, e, hq, he, hu⟩
theorem put_ends (h : Wf s r gone X) (hp : InP p) (hd : d ≤ 3) (ht : tabD s r p d = some t) (hg : goB s p t (3 - d) = false) (hv : stopW v (3 - d)) {q u : Int} {e : Nat} (hq : InP q) (he : Ends s r q e u) :
    Ends (putAt s p t d v) r q e u ∧ eOf (putAt s p t d v) q u (3 - e) = if e = d ∧ q / pow8 (3 - d) = p / pow8 (3 - d) then decE v (3 - d : Nat) else eOf s q u (3 - e) := by
  have hle := he.le
  have hw := put_word (v := v) h hp hd ht hq he.le he.tab
  have ht' := (put_tab h hp hd ht hg hv hq e (by omega)).trans he.tab
  by_cases hs : e = d ∧ q / pow8 (3 - d) = p / pow8 (3 - d)
  · rw [if_pos hs] at hw ⊢
    obtain ⟨rfl, hpre⟩ := hs
    refine ⟨⟨hle, ht', he.use, by rw [hw]; exact hv.1, ?_⟩, by unfold eOf; rw [hw]⟩
    unfold goB eOf
    rw [hw]
    have := hv.2
    cases h1 : (decE v (3 - e : Nat)).there <;> cases h2 : (decE v (3 - e : Nat)).leaf <;> simp_all
  · rw [if_neg hs] at hw ⊢
    refine ⟨⟨hle, ht', he.use, by rw [hw]; exact he.dec, ?_⟩, by unfold eOf; rw [hw]⟩
    have := he.no
    unfold goB eOf at this ⊢
    rw [hw, has_setW]
    exact this
/-- The tree stays one. If the word is none, there may be nothing in the table now; else there is. -/
theorem Wf.put (h : Wf s r gone X) (hp : InP p) (hd : d ≤ 3) (ht : tabD s r p d = some t) (hg : goB s p t (3 - d) = false) (hv : stopW v (3 - d)) :
    Wf (putAt s p t d v) r gone (fun u => (X u ∧ (v = 0 ∨ u ≠ t)) ∨ (v = 0 ∧ u = t)) := by
  have hT := put_inT h hp hd ht hg hv
  have hn := h.nat hp hd ht
  have i1 := index_range hp (show 3 - d ≤ 3 by omega)
  refine ⟨fun q hq => ?_, fun q q' e e' u a b c c' k k' => ?_, fun q e u hq he hu => ?_, fun k => ?_, h.nd, fun g hg' => ?_, fun g hg' => ?_⟩
  · obtain ⟨e, u, he⟩ := h.ends q hq
    exact ⟨e, u, (put_ends h hp hd ht hg hv hq he).1⟩
  · rw [put_tab h hp hd ht hg hv a e (by omega)] at k
    rw [put_tab h hp hd ht hg hv b e' (by omega)] at k'
    exact h.inj q q' e e' u a b c c' k k'
  · rw [put_tab h hp hd ht hg hv hq (e + 1) (by omega)] at hu
    have hun := h.nat hq (by omega) hu
    by_cases hut : u = t
    · subst hut
      by_cases hv0 : v = 0
      · exact .inl (.inr ⟨hv0, rfl⟩)
      · refine .inr ⟨(index p (3 - d : Nat)).toNat, by omega, ?_⟩
        rw [wordV_setW hn.1 hn.1 i1.1 (by omega), if_pos ⟨rfl, by omega⟩]
        exact hv0
    · rcases h.full q e u hq he hu with hx | ⟨i, hi, hw⟩
      · exact .inl (.inl ⟨hx, .inr hut⟩)
      · refine .inr ⟨i, hi, ?_⟩
        rw [wordV_setW hun.1 hn.1 i1.1 (by omega), if_neg (fun x => hut x.1)]
        exact hw
  · rw [hT]
    exact h.use k
  · obtain ⟨g0, gz⟩ := h.gz g hg'
    refine ⟨g0, fun i hi => ?_⟩
    rw [wordV_setW g0 hn.1 i1.1 (by omega), if_neg]
    · exact gz i hi
    · rintro ⟨rfl, _⟩
      exact h.gt g hg' ⟨p, d, hp, hd, ht⟩
  · rw [hT]
    exact h.gt g hg'
end leaf
end
end Go.Proofs.Ytmfheghbgihdmaa
namespace Go.Proofs.Ytmfheghbgihdmaa
open Go.RowKit
theorem dec_zero {L : Nat} (hL : L ≤ 3) : decC 0 L = 0 ∧ decE 0 L = En.zero := by
  have h1 : decC 0 L = 0 := by
    unfold decC
    rw [if_neg (by omega), if_neg (by unfold bitsOk; simp), if_pos rfl]
  refine ⟨h1, ?_⟩
  unfold decE
  rw [if_neg (by simp)]
/-- The entry that leads to a table. -/
def tabE (k : Int) : En := ⟨true, false, 7, false, false, k⟩
def tabW (k : Int) (L : Nat) : Int := encW (tabE k) L
theorem tabE_ok {k : Int} (h0 : 0 ≤ k) (h1 : k < 1048576) {L : Nat} (hL : 0 < L) (hL3 : L ≤ 3) : entFault (tabE k) L = 0 := by
  unfold entFault tabE
  simp
  omega
theorem tabW_dec {k : Int} (h0 : 0 ≤ k) (h1 : k < 1048576) {L : Nat} (hL : 0 < L) (hL3 : L ≤ 3) : decC (tabW k L) L = 0 ∧ decE (tabW k L) L = tabE k := by
  have := dec_enc (tabE_ok h0 h1 hL hL3)
  exact ⟨this.1, this.2.1⟩
theorem eOf_zero {s : Ms} {p t : Int} {L : Nat} (hL : L ≤ 3) (h : wordV s t (index p L) = 0) : eOf s p t L = En.zero := by
  unfold eOf
  rw [h]
  exact (dec_zero hL).2
theorem goB_zero {s : Ms} {p t : Int} {L : Nat} (hL : L ≤ 3) (h : wordV s t (index p L) = 0) : goB s p t L = false := by
  unfold goB
  rw [eOf_zero hL h]
  simp [En.zero]
section
variable {s : Ms} {r : Int} {gone : List Int} {X : Int → Prop} {p t : Int} {d : Nat}
/-- s, where the frame k is taken and the word on the way to p in the table t leads to it. -/
def graft (s : Ms) (p t : Int) (d k : Nat) : Ms := putAt (s.take k) p t d (tabW k (3 - d))
section graft
variable {k : Nat}
theorem has_take {u : Int} (s : Ms) (k : Nat) (h : u ≠ k) : (s.take k).has u = s.has u := by
  unfold Ms.has
  by_cases h0 : 0 ≤ u
  · have : u.toNat ≠ k := by omega
    show (_ && (_ && fput s.tk k true u.toNat)) = _
    rw [fput_ne _ _ this]
    rfl
  · simp [h0]
theorem has_take_self {s : Ms} {k : Nat} (h : k < s.n) : (s.take k).has k = true := by
  refine Ms.has_iff.2 ⟨by omega, ?_, ?_⟩
  · show (k : Int) < s.n; omega
  · show fput s.tk k true (k : Int).toNat = true
    rw [Int.toNat_natCast, fput_self]
theorem wordV_take {s : Ms} {k : Nat} {u : Int} (hu : 0 ≤ u) (j : Int) : wordV (s.take k) u j = if u = k then 0 else wordV s u j := by
  show (if u.toNat = k then 0 else s.wd u.toNat j.toNat) = _
  by_cases h : u = k
  · rw [if_pos h, if_pos (by omega)]
  · rw [if_neg h, if_neg (by omega)]
    rfl
/-- What a fresh frame is not. -/
theorem Wf.fresh (h : Wf s r gone X) (hk : s.tk k = false) : ¬ InT s r k ∧ (k : Int) ∉ gone := by
  constructor
  · intro hi
    have := (h.use k).2 (.inl hi)
    rw [hk] at this; cases this
  · intro hi
    have := (h.use k).2 (.inr hi)
    rw [hk] at this; cases this
theorem graft_word (h : Wf s r gone X) (he : Ends s r p d t) (hp : InP p) (hk : s.tk k = false) {q u : Int} {e : Nat} (hq : InP q) (hle : e ≤ 3) (hu : tabD s r q e = some u) :
    (graft s p t d k).has u = s.has u ∧ wordV (graft s p t d k) u (index q (3 - e : Nat)) = if e = d ∧ q / pow8 (3 - d) = p / pow8 (3 - d) then tabW k (3 - d) else wordV s u (index q (3 - e : Nat)) := by
  have hn := h.nat hp he.le he.tab
  have hun := h.nat hq hle hu
  have i1 := index_range hp (show 3 - d ≤ 3 by omega)
  have i2 := index_range hq (show 3 - e ≤ 3 by omega)
  have huk : u ≠ k := by
    intro e
    have := hun.2.2
    rw [e, Int.toNat_natCast, hk] at this
    cases this
  refine ⟨by unfold graft putAt; rw [has_setW, has_take s k huk], ?_⟩
  unfold graft putAt
  rw [wordV_setW hun.1 hn.1 i1.1 i2.1, wordV_take hun.1, if_neg huk]
  have := slot h hp he.le he.tab hq hle hu
  by_cases hs : u = t ∧ index q (3 - e : Nat) = index p (3 - d : Nat)
  · rw [if_pos hs, if_pos (this.1 hs)]
  · rw [if_neg hs, if_neg (fun x => hs (this.2 x))]
theorem graft_new (h : Wf s r gone X) (he : Ends s r p d t) (hp : InP p) (hk : s.tk k = false) (hn : k < s.n) (j : Int) (hj : 0 ≤ j) : (graft s p t d k).has k = true ∧ wordV (graft s p t d k) k j = 0 := by
  have htn := h.nat hp he.le he.tab
  have i1 := index_range hp (show 3 - d ≤ 3 by omega)
  have hkt : (k : Int) ≠ t := by
    intro e
    have := htn.2.2
    rw [← e, Int.toNat_natCast, hk] at this
    cases this
  unfold graft putAt
  rw [has_setW]
  refine ⟨has_take_self hn, ?_⟩
  rw [wordV_setW (by omega) htn.1 i1.1 hj, if_neg (fun x => hkt x.1), wordV_take (by omega), if_pos rfl]
theorem graft_tab (h : Wf s r gone X) (he : Ends s r p d t) (hp : InP p) (hd : d ≤ 2) (hk : s.tk k = false) (hn : k < s.n) (hs : s.n ≤ 128) {q : Int} (hq : InP q) :
    ∀ e, e ≤ 4 → tabD (graft s p t d k) r q e = if e = d + 1 ∧ q / pow8 (3 - d) = p / pow8 (3 - d) then some (k : Int) else tabD s r q e := by
  intro e
  induction e with
  | zero => intro _; rw [if_neg (by omega)]; rfl
  | succ e ih =>
    intro hle
    have ih := ih (by omega)
    by_cases h1 : e = d + 1 ∧ q / pow8 (3 - d) = p / pow8 (3 - d)
    · rw [if_pos h1] at ih
      have g0 : goB (graft s p t d k) q k (3 - e) = false := goB_zero (by omega) (graft_new h he hp hk hn _ (index_range hq (by omega)).1).2
      rw [tabD_none ih g0, if_neg (by omega)]
      obtain ⟨rfl, hpre⟩ := h1
      have hq' := (he.same hp hq hpre).1
      exact (tabD_none_mono (tabD_none hq'.tab hq'.no) _ (by omega)).symm
    · rw [if_neg h1] at ih
      cases hu : tabD s r q e with
      | none =>
        rw [hu] at ih
        rw [tabD_none_mono ih (e + 1) (by omega), tabD_none_mono hu (e + 1) (by omega)]
        rw [if_neg]
        rintro ⟨h2, hpre⟩
        obtain rfl : e = d := by omega
        rw [(he.same hp hq hpre).1.tab] at hu
        cases hu
      | some u =>
        rw [hu] at ih
        obtain ⟨w1, w2⟩ := graft_word h he hp hk hq (show e ≤ 3 by omega) hu
        show (tabD (graft s p t d k) r q e).bind _ = _
        rw [ih, Option.bind_some]
        by_cases h2 : e = d ∧ q / pow8 (3 - d) = p / pow8 (3 - d)
        · rw [if_pos h2] at w2
          obtain ⟨rfl, hpre⟩ := h2
          obtain ⟨t1, t2⟩ := tabW_dec (k := (k : Int)) (by omega) (by omega) (show 0 < 3 - e by omega) (by omega)
          have hhas := (h.at_ hq (by omega) hu).1
          have g1 : goB (graft s p t e k) q u (3 - e) = true := by
            refine goB_iff.2 ⟨w1.trans hhas, by rw [w2]; exact t1, ?_, ?_⟩
            · unfold eOf; rw [w2, t2]; rfl
            · unfold eOf; rw [w2, t2]; rfl
          rw [if_pos g1, if_pos ⟨rfl, hpre⟩]
          unfold eOf
          rw [w2, t2]
          rfl
        · rw [if_neg h2] at w2
          have hn2 : ¬ (e + 1 = d + 1 ∧ q / pow8 (3 - d) = p / pow8 (3 - d)) := fun z => h2 ⟨by omega, z.2⟩
          rw [if_neg hn2]
          show _ = (tabD s r q e).bind _
          rw [hu, Option.bind_some]
          unfold goB eOf
          rw [w1, w2]
theorem graft_inT (h : Wf s r gone X) (he : Ends s r p d t) (hp : InP p) (hd : d ≤ 2) (hk : s.tk k = false) (hn : k < s.n) (hs : s.n ≤ 128) (u : Int) : InT (graft s p t d k) r u ↔ InT s r u ∨ u = k := by
  constructor
  · rintro ⟨q, e, hq, hle, hu⟩
    rw [graft_tab h he hp hd hk hn hs hq e (by omega)] at hu
    split at hu
    · injection hu with hu; exact .inr hu.symm
    · exact .inl ⟨q, e, hq, hle, hu⟩
  · rintro (⟨q, e, hq, hle, hu⟩ | rfl)
    · refine ⟨q, e, hq, hle, ?_⟩
      rw [graft_tab h he hp hd hk hn hs hq e (by omega), if_neg]
      · exact hu
      · rintro ⟨rfl, hpre⟩
        have hq' := (he.same hp hq hpre).1
        rw [tabD_none hq'.tab hq'.no] at hu
        cases hu
    · refine ⟨p, d + 1, hp, by omega, ?_⟩
      rw [graft_tab h he hp hd hk hn hs hp (d + 1) (by omega), if_pos ⟨rfl, rfl⟩]
/-- Where ways end then. -/
theorem graft_ends (h : Wf s r gone X) (he : Ends s r p d t) (hp : InP p) (hd : d ≤ 2) (hk : s.tk k = false) (hn : k < s.n) (hs : s.n ≤ 128) {q u : Int} {e : Nat} (hq : InP q) (hu : Ends s r q e u) :
    if q / pow8 (3 - d) = p / pow8 (3 - d) then Ends (graft s p t d k) r q (d + 1) k ∧ eOf (graft s p t d k) q k (2 - d) = En.zero
    else Ends (graft s p t d k) r q e u ∧ eOf (graft s p t d k) q u (3 - e) = eOf s q u (3 - e) := by
  by_cases hpre : q / pow8 (3 - d) = p / pow8 (3 - d)
  · rw [if_pos hpre]
    have e3 : 3 - (d + 1) = 2 - d := by omega
    have i2 := index_range hq (show 2 - d ≤ 3 by omega)
    obtain ⟨n1, n2⟩ := graft_new h he hp hk hn _ i2.1
    refine ⟨⟨by omega, ?_, n1, ?_, ?_⟩, eOf_zero (by omega) n2⟩
    · rw [graft_tab h he hp hd hk hn hs hq (d + 1) (by omega), if_pos ⟨rfl, hpre⟩]
    · rw [e3, n2]; exact (dec_zero (by omega)).1
    · rw [e3]; exact goB_zero (by omega) n2
  · rw [if_neg hpre]
    have hle := hu.le
    obtain ⟨w1, w2⟩ := graft_word h he hp hk hq hle hu.tab
    rw [if_neg (fun x => hpre x.2)] at w2
    refine ⟨⟨hle, ?_, w1.trans hu.use, by rw [w2]; exact hu.dec, ?_⟩, by unfold eOf; rw [w2]⟩
    · rw [graft_tab h he hp hd hk hn hs hq e (by omega), if_neg (fun x => hpre x.2)]
      exact hu.tab
    · have := hu.no
      unfold goB eOf at this ⊢
      rw [w1, w2]
      exact this
theorem Wf.graft (h : Wf s r gone X) (he : Ends s r p d t) (hp : InP p) (hd : d ≤ 2) (hk : s.tk k = false) (hn : k < s.n) (hs : s.n ≤ 128) : Wf (graft s p t d k) r gone (fun u => (X u ∧ u ≠ t) ∨ u = k) := by
  have hT := graft_inT h he hp hd hk hn hs
  have htn := h.nat hp he.le he.tab
  have i1 := index_range hp (show 3 - d ≤ 3 by omega)
  obtain ⟨f1, f2⟩ := h.fresh hk
  refine ⟨fun q hq => ?_, fun q q' e e' u a b c c' x x' => ?_, fun q e u hq hle hu => ?_, fun j => ?_, h.nd, fun g hg' => ?_, fun g hg' => ?_⟩
  · obtain ⟨e, u, hu⟩ := h.ends q hq
    have := graft_ends h he hp hd hk hn hs hq hu
    split at this
    · exact ⟨_, _, this.1⟩
    · exact ⟨_, _, this.1⟩
  · rw [graft_tab h he hp hd hk hn hs a e (by omega)] at x
    rw [graft_tab h he hp hd hk hn hs b e' (by omega)] at x'
    split at x <;> split at x'
    · rename_i y y'
      obtain ⟨rfl, y⟩ := y
      obtain ⟨rfl, y'⟩ := y'
      exact ⟨rfl, by rw [show 4 - (d + 1) = 3 - d by omega]; exact y.trans y'.symm⟩
    · injection x with x; subst x
      exact absurd ⟨q', e', b, c', x'⟩ f1
    · injection x' with x'; subst x'
      exact absurd ⟨q, e, a, c, x⟩ f1
    · exact h.inj q q' e e' u a b c c' x x'
  · by_cases huk : u = k
    · exact .inl (.inr huk)
    · rw [graft_tab h he hp hd hk hn hs hq (e + 1) (by omega)] at hu
      split at hu
      · injection hu with hu; exact absurd hu.symm huk
      have hun := h.nat hq (by omega) hu
      by_cases hut : u = t
      · subst hut
        refine .inr ⟨(index p (3 - d : Nat)).toNat, by omega, ?_⟩
        unfold Go.Proofs.Ytmfheghbgihdmaa.graft putAt
        rw [wordV_setW hun.1 hun.1 i1.1 (by omega), if_pos ⟨rfl, by omega⟩]
        intro h0
        obtain ⟨_, t2⟩ := tabW_dec (k := (k : Int)) (by omega) (by omega) (show 0 < 3 - d by omega) (by omega)
        rw [h0, (dec_zero (by omega)).2] at t2
        cases t2
      · rcases h.full q e u hq hle hu with hx | ⟨i, hi, hw⟩
        · exact .inl (.inl ⟨hx, hut⟩)
        · refine .inr ⟨i, hi, ?_⟩
          unfold Go.Proofs.Ytmfheghbgihdmaa.graft putAt
          rw [wordV_setW hun.1 htn.1 i1.1 (by omega), if_neg (fun x => hut x.1), wordV_take hun.1, if_neg huk]
          exact hw
  · rw [hT]
    show fput s.tk k true j = true ↔ _
    by_cases hj : j = k
    · subst hj
      simp [fput_self]
    · rw [fput_ne _ _ hj, h.use j]
      constructor
      · rintro (a | a)
        · exact .inl (.inl a)
        · exact .inr a
      · rintro ((a | a) | a)
        · exact .inl a
        · omega
        · exact .inr a
  · obtain ⟨g0, gz⟩ := h.gz g hg'
    refine ⟨g0, fun i hi => ?_⟩
    unfold Go.Proofs.Ytmfheghbgihdmaa.graft putAt
    have hgk : g ≠ k := fun e => f2 (e ▸ hg')
    rw [wordV_setW g0 htn.1 i1.1 (by omega), if_neg, wordV_take g0, if_neg hgk]
    · exact gz i hi
    · rintro ⟨rfl, _⟩
      exact h.gt g hg' ⟨p, d, hp, he.le, he.tab⟩
  · rw [hT]
    rintro (a | a)
    · exact h.gt g hg' a
    · exact f2 (a ▸ hg')
end graft
section prune
variable {u : Int}
/-- s, where the word on the way to p in the table u is none. -/
abbrev cutAt (s : Ms) (p u : Int) (d : Nat) : Ms := putAt s p u d 0
theorem cut_tab (h : Wf s r gone X) (hp : InP p) (hd : d ≤ 2) (hu : tabD s r p d = some u) (ht : tabD s r p (d + 1) = some t) (hz : ∀ i : Nat, i < 8 → wordV s t i = 0) {q : Int} (hq : InP q) :
    ∀ e, e ≤ 4 → tabD (cutAt s p u d) r q e = if e = d + 1 ∧ q / pow8 (3 - d) = p / pow8 (3 - d) then none else tabD s r q e := by
  intro e
  induction e with
  | zero => intro _; rw [if_neg (by omega)]; rfl
  | succ e ih =>
    intro hle
    have ih := ih (by omega)
    by_cases h1 : e = d + 1 ∧ q / pow8 (3 - d) = p / pow8 (3 - d)
    · rw [if_pos h1] at ih
      rw [tabD_none_mono ih (e + 1) (by omega), if_neg (by omega)]
      obtain ⟨rfl, hpre⟩ := h1
      have hq' : tabD s r q (d + 1) = some t := by
        rw [← ht]
        exact tabD_prefix s r hq hp (d + 1) (by omega) (by rw [show 4 - (d + 1) = 3 - d by omega]; exact hpre)
      have i2 := index_range hq (show 3 - (d + 1) ≤ 3 by omega)
      refine (tabD_none hq' (goB_zero (by omega) ?_)).symm
      have := hz (index q (3 - (d + 1) : Nat)).toNat (by omega)
      rwa [Int.toNat_of_nonneg i2.1] at this
    · rw [if_neg h1] at ih
      cases hx : tabD s r q e with
      | none =>
        rw [hx] at ih
        rw [tabD_none_mono ih (e + 1) (by omega), tabD_none_mono hx (e + 1) (by omega)]
        simp
      | some x =>
        rw [hx] at ih
        have w2 := put_word (v := 0) h hp (show d ≤ 3 by omega) hu hq (show e ≤ 3 by omega) hx
        show (tabD (cutAt s p u d) r q e).bind _ = _
        rw [ih, Option.bind_some]
        by_cases h2 : e = d ∧ q / pow8 (3 - d) = p / pow8 (3 - d)
        · rw [if_pos h2] at w2
          obtain ⟨rfl, hpre⟩ := h2
          have hp2 : e + 1 = e + 1 ∧ q / pow8 (3 - e) = p / pow8 (3 - e) := ⟨rfl, hpre⟩
          rw [goB_zero (by omega) w2, if_pos hp2]
          simp
        · rw [if_neg h2] at w2
          have hn2 : ¬ (e + 1 = d + 1 ∧ q / pow8 (3 - d) = p / pow8 (3 - d)) := fun z => h2 ⟨by omega, z.2⟩
          rw [if_neg hn2]
          show _ = (tabD s r q e).bind _
          rw [hx, Option.bind_some]
          unfold goB eOf
          rw [w2, has_setW]
theorem cut_inT (h : Wf s r gone X) (hp : InP p) (hd : d ≤ 2) (hu : tabD s r p d = some u) (ht : tabD s r p (d + 1) = some t) (hz : ∀ i : Nat, i < 8 → wordV s t i = 0) (x : Int) : InT (cutAt s p u d) r x ↔ InT s r x ∧ x ≠ t := by
  constructor
  · rintro ⟨q, e, hq, hle, hx⟩
    rw [cut_tab h hp hd hu ht hz hq e (by omega)] at hx
    split at hx
    · cases hx
    · rename_i hne
      refine ⟨⟨q, e, hq, hle, hx⟩, fun hxt => ?_⟩
      subst hxt
      obtain ⟨rfl, hpre⟩ := h.inj q p e (d + 1) x hq hp hle (by omega) hx ht
      rw [show 4 - (d + 1) = 3 - d by omega] at hpre
      exact hne ⟨rfl, hpre⟩
  · rintro ⟨⟨q, e, hq, hle, hx⟩, hne⟩
    refine ⟨q, e, hq, hle, ?_⟩
    rw [cut_tab h hp hd hu ht hz hq e (by omega), if_neg]
    · exact hx
    · rintro ⟨rfl, hpre⟩
      have : tabD s r q (d + 1) = tabD s r p (d + 1) := tabD_prefix s r hq hp (d + 1) (by omega) (by rw [show 4 - (d + 1) = 3 - d by omega]; exact hpre)
      rw [hx, ht] at this
      injection this with this
      exact hne this
theorem cut_ends (h : Wf s r gone X) (hp : InP p) (hd : d ≤ 2) (hu : tabD s r p d = some u) (ht : tabD s r p (d + 1) = some t) (hz : ∀ i : Nat, i < 8 → wordV s t i = 0) {q x : Int} {e : Nat} (hq : InP q) (hx : Ends s r q e x) :
    if q / pow8 (3 - d) = p / pow8 (3 - d) then Ends (cutAt s p u d) r q d u ∧ eOf (cutAt s p u d) q u (3 - d) = En.zero
    else Ends (cutAt s p u d) r q e x ∧ eOf (cutAt s p u d) q x (3 - e) = eOf s q x (3 - e) := by
  by_cases hpre : q / pow8 (3 - d) = p / pow8 (3 - d)
  · rw [if_pos hpre]
    have hqu : tabD s r q d = some u := by
      rw [← hu]
      exact tabD_prefix s r hq hp d (by omega) (div_up (by omega) hpre)
    have w2 := put_word (v := 0) h hp (show d ≤ 3 by omega) hu hq (show d ≤ 3 by omega) hqu
    rw [if_pos ⟨rfl, hpre⟩] at w2
    refine ⟨⟨by omega, ?_, (h.at_ hq (by omega) hqu).1, by rw [w2]; exact (dec_zero (by omega)).1, goB_zero (by omega) w2⟩, eOf_zero (by omega) w2⟩
    rw [cut_tab h hp hd hu ht hz hq d (by omega), if_neg (by omega)]
    exact hqu
  · rw [if_neg hpre]
    have hle := hx.le
    have w2 := put_word (v := 0) h hp (show d ≤ 3 by omega) hu hq hle hx.tab
    rw [if_neg (fun y => hpre y.2)] at w2
    refine ⟨⟨hle, ?_, hx.use, by rw [w2]; exact hx.dec, ?_⟩, by unfold eOf; rw [w2]⟩
    · rw [cut_tab h hp hd hu ht hz hq e (by omega), if_neg (fun y => hpre y.2)]
      exact hx.tab
    · have := hx.no
      unfold goB eOf at this ⊢
      rw [w2, has_setW]
      exact this
theorem Wf.cut (h : Wf s r gone X) (hp : InP p) (hd : d ≤ 2) (hu : tabD s r p d = some u) (ht : tabD s r p (d + 1) = some t) (hz : ∀ i : Nat, i < 8 → wordV s t i = 0) : Wf (cutAt s p u d) r (t :: gone) (fun x => (X x ∧ x ≠ t) ∨ x = u) := by
  have hT := cut_inT h hp hd hu ht hz
  have hun := h.nat hp (show d ≤ 3 by omega) hu
  have htn := h.nat hp (show d + 1 ≤ 3 by omega) ht
  have i1 := index_range hp (show 3 - d ≤ 3 by omega)
  have hut : t ≠ u := by
    rintro rfl
    have := (h.inj p p d (d + 1) t hp hp (by omega) (by omega) hu ht).1
    omega
  have htT : InT s r t := ⟨p, d + 1, hp, by omega, ht⟩
  refine ⟨fun q hq => ?_, fun q q' e e' x a b c c' y y' => ?_, fun q e x hq hle hx => ?_, fun j => ?_, ?_, fun g hg => ?_, fun g hg => ?_⟩
  · obtain ⟨e, x, hx⟩ := h.ends q hq
    have := cut_ends h hp hd hu ht hz hq hx
    split at this
    · exact ⟨_, _, this.1⟩
    · exact ⟨_, _, this.1⟩
  · rw [cut_tab h hp hd hu ht hz a e (by omega)] at y
    rw [cut_tab h hp hd hu ht hz b e' (by omega)] at y'
    split at y
    · cases y
    split at y'
    · cases y'
    exact h.inj q q' e e' x a b c c' y y'
  · rw [cut_tab h hp hd hu ht hz hq (e + 1) (by omega)] at hx
    split at hx
    · cases hx
    rename_i hne
    have hxn := h.nat hq (by omega) hx
    by_cases hxu : x = u
    · exact .inl (.inr hxu)
    · rcases h.full q e x hq hle hx with hX | ⟨i, hi, hw⟩
      · refine .inl (.inl ⟨hX, fun hxt => ?_⟩)
        subst hxt
        obtain ⟨h1, hpre⟩ := h.inj q p (e + 1) (d + 1) x hq hp (by omega) (by omega) hx ht
        obtain rfl : e = d := by omega
        rw [show 4 - (e + 1) = 3 - e by omega] at hpre
        exact hne ⟨rfl, hpre⟩
      · refine .inr ⟨i, hi, ?_⟩
        rw [wordV_setW hxn.1 hun.1 i1.1 (by omega), if_neg (fun y => hxu y.1)]
        exact hw
  · rw [hT, List.mem_cons]
    show s.tk j = true ↔ _
    rw [h.use j]
    by_cases hj : (j : Int) = t
    · rw [hj]
      constructor
      · intro _; exact .inr (.inl rfl)
      · intro _; exact .inl htT
    · constructor
      · rintro (a | a)
        · exact .inl ⟨a, hj⟩
        · exact .inr (.inr a)
      · rintro (a | a | a)
        · exact .inl a.1
        · exact absurd a hj
        · exact .inr a
  · rw [List.nodup_cons]
    exact ⟨fun hm => h.gt t hm htT, h.nd⟩
  · have hgu : g ≠ u := by
      rcases List.mem_cons.1 hg with rfl | hg
      · exact hut
      · rintro rfl
        exact h.gt g hg ⟨p, d, hp, by omega, hu⟩
    have g0 : 0 ≤ g := by
      rcases List.mem_cons.1 hg with rfl | hg
      · exact htn.1
      · exact (h.gz g hg).1
    refine ⟨g0, fun i hi => ?_⟩
    rw [wordV_setW g0 hun.1 i1.1 (by omega), if_neg (fun y => hgu y.1)]
    rcases List.mem_cons.1 hg with rfl | hg
    · exact hz i hi
    · exact (h.gz g hg).2 i hi
  · rw [hT]
    rintro ⟨a, b⟩
    rcases List.mem_cons.1 hg with rfl | hg
    · exact b rfl
    · exact h.gt g hg a
end prune
end
end Go.Proofs.Ytmfheghbgihdmaa
namespace Go.Proofs.Ytmfheghbgihdmaa
open Go.RowKit
namespace Bk
theorem take_pos (l : List Mp) (p : Int) : l.takeWhile (before p) = l.take (pos l p) := by
  conv => rhs; rw [← split l p]
  unfold pos
  rw [List.take_append_of_le_length (by rw [split]; exact Nat.le_refl _), split, List.take_of_length_le (Nat.le_refl _)]
theorem drop_pos (l : List Mp) (p : Int) : l.dropWhile (before p) = l.drop (pos l p) := by
  have h := split l p
  rw [take_pos] at h
  have h2 := List.take_append_drop (pos l p) l
  exact List.append_cancel_left (h.trans h2.symm)
/-- Of what does not meet it: what lies behind it by its page lies behind it. -/
theorem behind {l : List Mp} (h : Ok l) {m : Mp} (hm : MapOk m) {i : Nat} (hi : i < l.length) (hn : meet l[i] m = false) : decide (m.page < l[i].page) = decide (pos l m.page ≤ i) := by
  have hx := h.chk l[i] (List.getElem_mem hi)
  have hb := pos_iff h m.page hi
  have h1 := (meet_false hx hm).1 hn
  have h2 := before_iff (p := m.page) hx
  have := hx.sp; have := hm.sp
  by_cases hp : pos l m.page ≤ i
  · rw [decide_eq_true hp]
    rw [decide_eq_false (by omega)] at hb
    have : ¬ l[i].page + span l[i].size ≤ m.page := fun e => by rw [h2.2 e] at hb; cases hb
    exact decide_eq_true (by omega)
  · rw [decide_eq_false hp]
    rw [decide_eq_true (by omega)] at hb
    have := h2.1 hb
    exact decide_eq_false (by omega)
theorem mem_ins {l : List Mp} {m x : Mp} : x ∈ ins l m ↔ x = m ∨ x ∈ l := by
  unfold ins
  conv => rhs; rw [← split l m.page]
  simp only [List.mem_append, List.mem_cons]
  constructor
  · rintro (a | a | a)
    · exact .inr (.inl a)
    · exact .inl a
    · exact .inr (.inr a)
  · rintro (a | a | a)
    · exact .inr (.inl a)
    · exact .inl a
    · exact .inr (.inr a)
theorem apart_at {l : List Mp} (h : Ok l) {a b : Nat} (ha : a < l.length) (hb : b < l.length) (hne : a ≠ b) : meet l[a] l[b] = false := by
  have hx := h.chk _ (List.getElem_mem ha)
  have hy := h.chk _ (List.getElem_mem hb)
  rw [meet_false hx hy]
  rcases Nat.lt_or_gt_of_ne hne with hlt | hlt
  · exact .inl (List.pairwise_iff_getElem.1 h.up a b ha hb hlt)
  · exact .inr (List.pairwise_iff_getElem.1 h.up b a hb ha hlt)
/-- The first i mappings of a book, counted from the s-th on and around. -/
structure Turned (all c : List Mp) (s i : Nat) : Prop where
  ok : Ok c
  mem : ∀ x, x ∈ c ↔ ∃ j, j < i ∧ ∃ h : (j + s) % all.length < all.length, x = all[(j + s) % all.length]
theorem Turned.zero (all : List Mp) (s : Nat) : Turned all [] s 0 := ⟨Ok.nil, fun x => by constructor; (intro h; cases h); (rintro ⟨j, h, _⟩; omega)⟩
theorem mod_ne {j i s n : Nat} (h : j < i) (hi : i < n) : (j + s) % n ≠ (i + s) % n := by
  intro e
  have h1 := Nat.div_add_mod (j + s) n
  have h2 := Nat.div_add_mod (i + s) n
  rw [e] at h1
  have h3 : n * ((i + s) / n) = n * ((j + s) / n) + (i - j) := by omega
  have h4 : (i - j) % n = 0 := by
    have := congrArg (· % n) h3
    simp only [Nat.mul_mod_right, Nat.mul_add_mod] at this
    exact this.symm
  rw [Nat.mod_eq_of_lt (by omega)] at h4
  omega
theorem Turned.next {all c : List Mp} {s i : Nat} (ha : Ok all) (h : Turned all c s i) (hi : i < all.length) (hk : (i + s) % all.length < all.length) :
    addC c all[(i + s) % all.length] = 0 ∧ Turned all (add c all[(i + s) % all.length]) s (i + 1) := by
  have hm := ha.chk _ (List.getElem_mem hk)
  have hc := mapOk_check hm
  have hb : bad c all[(i + s) % all.length] = false := by
    unfold bad
    rw [List.any_eq_false]
    intro x hx
    obtain ⟨j, hj, hjl, rfl⟩ := (h.mem x).1 hx
    rw [apart_at ha hjl hk (mod_ne hj hi)]
    simp
  refine ⟨by unfold addC; rw [hc, hb]; rfl, ?_⟩
  unfold Bk.add
  rw [if_pos ⟨hc, hb⟩]
  refine ⟨h.ok.ins hm hb, fun x => ?_⟩
  rw [mem_ins, h.mem x]
  constructor
  · rintro (rfl | ⟨j, hj, hjl, e⟩)
    · exact ⟨i, by omega, hk, rfl⟩
    · exact ⟨j, by omega, hjl, e⟩
  · rintro ⟨j, hj, hjl, e⟩
    by_cases hji : j = i
    · subst hji; exact .inl e
    · exact .inr ⟨j, by omega, hjl, e⟩
theorem Turned.all {all c : List Mp} {s : Nat} (ha : Ok all) (h : Turned all c s all.length) : c = all := by
  refine Ok.ext h.ok ha fun x => ?_
  rw [h.mem x]
  constructor
  · rintro ⟨j, _, hjl, rfl⟩
    exact List.getElem_mem hjl
  · intro hx
    obtain ⟨k, hk, rfl⟩ := List.getElem_of_mem hx
    have hn : 0 < all.length := by omega
    have hs := Nat.mod_lt s hn
    have hd := Nat.div_add_mod s all.length
    by_cases hle : s % all.length ≤ k
    · refine ⟨k - s % all.length, by omega, Nat.mod_lt _ hn, ?_⟩
      have : (k - s % all.length + s) % all.length = k := by
        rw [show k - s % all.length + s = all.length * (s / all.length) + k by omega, Nat.mul_add_mod, Nat.mod_eq_of_lt hk]
      simp only [this]
    · refine ⟨k + all.length - s % all.length, by omega, Nat.mod_lt _ hn, ?_⟩
      have : (k + all.length - s % all.length + s) % all.length = k := by
        rw [show k + all.length - s % all.length + s = all.length * (s / all.length + 1) + k by rw [Nat.mul_add]; omega, Nat.mul_add_mod, Nat.mod_eq_of_lt hk]
      simp only [this]
end Bk
end Go.Proofs.Ytmfheghbgihdmaa
namespace Go.Proofs.Ytmfheghbgihdmaa
open Go.RowKit
namespace Bk
/-- Of a page: its mapping stands at its place, or there is none. -/
theorem place {l : List Mp} (h : Ok l) (p : Int) : (find l p = none ∧ del l p = l ∧ ∀ r, prot l p r = l) ∨
    ∃ hl : pos l p < l.length, over l[pos l p] p = true ∧ find l p = some l[pos l p] ∧ 0 ≤ p ∧ p < 4096 ∧ del l p = l.take (pos l p) ++ l.drop (pos l p + 1) ∧
      ∀ r, prot l p r = l.take (pos l p) ++ { l[pos l p] with rights := r } :: l.drop (pos l p + 1) := by
  have hf := find_head h p
  have hd := del_head h p
  have hp := fun r => prot_head h p r
  cases e : l.dropWhile (before p) with
  | nil =>
    rw [e] at hf hd
    exact .inl ⟨hf, hd, fun r => by rw [hp r, e]⟩
  | cons y k =>
    obtain ⟨hl, hy⟩ := drop_head e
    rw [e] at hf hd
    have hk : l.drop (pos l p + 1) = k := by
      have h1 := drop_pos l p
      rw [e, List.drop_eq_getElem_cons hl] at h1
      injection h1 with _ h1
      exact h1.symm
    cases ho : over y p with
    | false =>
      refine .inl ⟨?_, ?_, fun r => ?_⟩
      · rw [hf]; exact if_neg (by rw [ho]; simp)
      · rw [hd]; exact if_neg (by rw [ho]; simp)
      · rw [hp r, e]; exact if_neg (by rw [ho]; simp)
    | true =>
      have hm := h.chk y (hy ▸ List.getElem_mem hl)
      have hov := over_iff.1 ho
      have := hm.p0; have := hm.p1
      refine .inr ⟨hl, by rw [hy]; exact ho, ?_, by omega, by omega, ?_, fun r => ?_⟩
      · rw [hf, hy]; exact if_pos ho
      · rw [hd, hk, ← take_pos]; exact if_pos ho
      · rw [hp r, e, hk, hy, ← take_pos]; exact if_pos ho
/-- What has a page stands at its place. -/
theorem over_at {l : List Mp} (h : Ok l) {p : Int} {k : Nat} (hk : k < l.length) (ho : over l[k] p = true) : k = pos l p ∧ find l p = some l[k] := by
  have hb := pos_iff h p hk
  have hn : before p l[k] = false := by unfold before; rw [ho]; rfl
  rw [hn] at hb
  have hge := of_decide_eq_false hb.symm
  rcases place h p with ⟨hf, _⟩ | ⟨hl, ho2, hf, _⟩
  · unfold find at hf
    have := List.find?_eq_none.1 hf l[k] (List.getElem_mem hk)
    exact absurd ho this
  · by_cases e : k = pos l p
    · subst e; exact ⟨rfl, hf⟩
    · have := List.pairwise_iff_getElem.1 h.up (pos l p) k hl hk (by omega)
      have a := over_iff.1 ho
      have b := over_iff.1 ho2
      omega
theorem bad_find {l : List Mp} {m : Mp} (hf : (find l m.page).isSome = true) : bad l m = true := by
  obtain ⟨y, hy⟩ := Option.isSome_iff_exists.1 hf
  have hm := List.mem_of_find?_eq_some hy
  have ho := List.find?_some hy
  exact List.any_eq_true.2 ⟨y, hm, by show (over y m.page || over m y.page) = true; rw [ho]; rfl⟩
/-- What Drop tells, and what it leaves. -/
def dropR (l : List Mp) (p : Int) : Option Mp := if hasB p = true then find l p else none
def dropC (l : List Mp) (p : Int) : Int := if hasB p = true then (if (find l p).isSome = true then 0 else 5) else 1
def dropL (l : List Mp) (p : Int) : List Mp := if hasB p = true then del l p else l
theorem Ok.dropL {l : List Mp} (h : Ok l) (p : Int) : Ok (dropL l p) := by
  unfold Bk.dropL
  split
  · exact h.del p
  · exact h
/-- What Protect tells, and what it leaves. -/
def protB (p r : Int) : Bool := hasB p && decide (0 ≤ r) && decide (r ≤ 7)
def protR (l : List Mp) (p r : Int) : Option Mp := if protB p r = true then (find l p).map fun x => { x with rights := r } else none
def protC (l : List Mp) (p r : Int) : Int := if protB p r = true then (if (find l p).isSome = true then 0 else 5) else 1
def protL (l : List Mp) (p r : Int) : List Mp := if protB p r = true then prot l p r else l
theorem protB_iff {p r : Int} : protB p r = true ↔ 0 ≤ p ∧ p < 4096 ∧ 0 ≤ r ∧ r ≤ 7 := by
  unfold protB hasB
  simp only [Bool.and_eq_true, decide_eq_true_eq]
  omega
theorem Ok.protL {l : List Mp} (h : Ok l) (p r : Int) : Ok (protL l p r) := by
  unfold Bk.protL
  split
  · rename_i hb
    have := protB_iff.1 hb
    exact h.prot p this.2.2.1 this.2.2.2
  · exact h
end Bk
def mpOf : Option Mp → Value
  | none => .agg #[(Value.int .i64) 0, (Value.int .i64) 0, (Value.int .i64) 0, (Value.int .i64) 0]
  | some x => .agg #[(Value.int .i64) x.page, (Value.int .i64) x.size, (Value.int .i64) x.frame, (Value.int .i64) x.rights]
end Go.Proofs.Ytmfheghbgihdmaa
namespace Go.Proofs.Ytmfheghbgihdmaa
open Go.RowKit
/-- The mapping of a page. -/
def mapAt (s : Ms) (r p : Int) : Option Mp := if (way s r p).e.leaf = true then some (leafMap (way s r p).e (way s r p).lev p) else none
theorem mapAt_ends {s : Ms} {r p t : Int} {d : Nat} (hp : InP p) (h : Ends s r p d t) :
    mapAt s r p = if (eOf s p t (3 - d)).leaf = true then some (leafMap (eOf s p t (3 - d)) ((3 - d : Nat) : Int) p) else none := by
  unfold mapAt
  rw [way_ends hp.1 hp.2 h]
theorem Ends.not {s : Ms} {r p t : Int} {d : Nat} (h : Ends s r p d t) (ht : (eOf s p t (3 - d)).there = false) : eOf s p t (3 - d) = En.zero ∧ wordV s t (index p (3 - d : Nat)) = 0 := by
  obtain ⟨h1, h2⟩ := enc_dec h.dec
  have h3 : eOf s p t (3 - d) = En.zero := entFault_not h1 ht
  refine ⟨h3, ?_⟩
  unfold eOf at h3
  rw [h3] at h2
  rw [← h2]
  unfold encW
  rw [if_neg (by simp [En.zero])]
theorem Ends.leafOf {s : Ms} {r p t : Int} {d : Nat} (h : Ends s r p d t) (ht : (eOf s p t (3 - d)).there = true) : (eOf s p t (3 - d)).leaf = true := by
  rcases h.stop with e | e
  · rw [ht] at e; cases e
  · exact e
/-- What a leaf maps. -/
theorem leafMap_eq {e : En} {L : Nat} {p : Int} (hp : InP p) (hf : entFault e L = 0) (hl : e.leaf = true) (hs : span L = pow8 L) : leafMap e L p = ⟨p / pow8 L * pow8 L, L, e.frame, e.rights⟩ := by
  unfold leafMap
  rw [if_pos ⟨hf, hl, hp.1, hp.2⟩, hs]
theorem span_pow {L : Nat} (h : L < 3) : span L = pow8 L := by
  have : L = 0 ∨ L = 1 ∨ L = 2 := by omega
  rcases this with rfl | rfl | rfl <;> rfl
theorem over_pre {L : Nat} (h : L < 3) (b p : Int) (f ri : Int) : over ⟨b * pow8 L, L, f, ri⟩ p = decide (p / pow8 L = b) := by
  have hs := span_pow h
  have h8 := pow8_pos L
  have hL : L = 0 ∨ L = 1 ∨ L = 2 := by omega
  cases ho : over ⟨b * pow8 L, L, f, ri⟩ p with
  | true =>
    have := over_iff.1 ho
    dsimp only at this
    rw [hs] at this
    symm
    refine decide_eq_true ?_
    rcases hL with rfl | rfl | rfl <;> simp [pow8] at this ⊢ <;> omega
  | false =>
    have := over_false.1 ho
    dsimp only at this
    rw [hs] at this
    symm
    refine decide_eq_false ?_
    rcases hL with rfl | rfl | rfl <;> simp [pow8] at this ⊢ <;> omega
/-- The mapping at the end of a way: which it is, and which pages it has. -/
theorem Ends.map {s : Ms} {r p t : Int} {d : Nat} (hp : InP p) (h : Ends s r p d t) (hl : (eOf s p t (3 - d)).leaf = true) :
    3 - d < 3 ∧ leafMap (eOf s p t (3 - d)) ((3 - d : Nat) : Int) p = ⟨p / pow8 (3 - d) * pow8 (3 - d), ((3 - d : Nat) : Int), (eOf s p t (3 - d)).frame, (eOf s p t (3 - d)).rights⟩ ∧
    ∀ q, over (leafMap (eOf s p t (3 - d)) ((3 - d : Nat) : Int) p) q = decide (q / pow8 (3 - d) = p / pow8 (3 - d)) := by
  obtain ⟨_, _, h3, _, hf⟩ := dec_leaf h.dec hl
  have h3' : 3 - d < 3 := by omega
  have e := leafMap_eq hp hf hl (span_pow h3')
  refine ⟨h3', e, fun q => ?_⟩
  have e' : leafMap (eOf s p t (3 - d)) ((3 - d : Nat) : Int) p = ⟨p / pow8 (3 - d) * pow8 (3 - d), ((3 - d : Nat) : Int), (eOf s p t (3 - d)).frame, (eOf s p t (3 - d)).rights⟩ := e
  rw [e']
  exact over_pre h3' _ _ _ _
/-- Pages that a mapping has are mapped by it. -/
theorem Wf.overMap {s : Ms} {r : Int} {gone : List Int} {X : Int → Prop} (_ : Wf s r gone X) {p q : Int} {m : Mp} (hp : InP p) (hq : InP q) (hm : mapAt s r p = some m) (ho : over m q = true) (hw : Wf s r gone X) : mapAt s r q = some m := by
  obtain ⟨d, t, he⟩ := hw.ends p hp
  rw [mapAt_ends hp he] at hm
  split at hm
  · rename_i hl
    injection hm with hm
    obtain ⟨h3, e1, e2⟩ := he.map hp hl
    rw [← hm, e2 q] at ho
    have hpre := of_decide_eq_true ho
    obtain ⟨hq', e3⟩ := he.same hp hq hpre
    rw [mapAt_ends hq hq', e3, if_pos hl, ← hm]
    have hl' := hl
    rw [← e3] at hl'
    rw [← e3, (hq'.map hq hl').2.1, e3, e1, hpre]
  · cases hm
theorem Wf.self {s : Ms} {r : Int} {gone : List Int} {X : Int → Prop} (hw : Wf s r gone X) {p : Int} {m : Mp} (hp : InP p) (hm : mapAt s r p = some m) : over m p = true ∧ MapOk m := by
  obtain ⟨d, t, he⟩ := hw.ends p hp
  rw [mapAt_ends hp he] at hm
  split at hm
  · rename_i hl
    injection hm with hm
    obtain ⟨h3, e1, e2⟩ := he.map hp hl
    subst hm
    refine ⟨by rw [e2 p]; exact decide_eq_true rfl, ?_⟩
    have hf := (enc_dec he.dec).1
    have ht := (dec_leaf he.dec hl).1
    have hk := entOk_of hf ht
    have hs := span_pow h3
    have h8 := pow8_pos (3 - d)
    have hL := hk.leaf hl
    have k1 : 0 ≤ (eOf s p t (3 - d)).rights := hk.r0
    have k2 : (eOf s p t (3 - d)).rights ≤ 7 := hk.r7
    have k3 : 0 ≤ (eOf s p t (3 - d)).frame := hk.f0
    have k4 : (eOf s p t (3 - d)).frame < 1048576 := hk.f1
    have k5 : (eOf s p t (3 - d)).frame % span ((3 - d : Nat) : Int) = 0 := hL.2
    rw [hs] at k5
    rw [e1]
    have hp' : 0 ≤ p ∧ p < 4096 := hp
    have hd : 3 - d = 0 ∨ 3 - d = 1 ∨ 3 - d = 2 := by omega
    refine mapOk_of ?_
    unfold check
    dsimp only
    rw [hs]
    rw [if_neg (by omega), if_neg, if_neg]
    · rw [Int.mul_emod_left]
      omega
    · generalize (eOf s p t (3 - d)).rights = ri at *
      generalize (eOf s p t (3 - d)).frame = fr at *
      clear e1 e2 hf ht hl he hk hL k5 hs h8
      rcases hd with h | h | h <;> rw [h] <;> simp only [pow8] <;> omega
  · cases hm
/-- Tables on the way to a leaf, and it: so many are lacking below t, which is of the level sz + n. -/
def chain (s : Ms) (p lw : Int) (sz : Nat) : Nat → Int → Ms
  | 0, t => s.setW t.toNat (index p sz).toNat lw
  | n + 1, t => match s.top with
    | some k => chain ((s.take k).setW t.toNat (index p (sz + n + 1 : Nat)).toNat (tabW k (sz + n + 1))) p lw sz n k
    | none => s
theorem top_of {s : Ms} (h : 0 < s.frees.length) : ∃ k, s.top = some k := by
  have := Ms.frees_top s
  cases ht : s.top with
  | some k => exact ⟨k, rfl⟩
  | none =>
    rw [ht] at this
    have := List.getLast?_eq_none_iff.1 this
    rw [this] at h
    cases h
theorem frees_take_len {s : Ms} {k : Nat} (h : s.top = some k) : (s.take k).frees.length + 1 = s.frees.length := by
  have := congrArg List.length (Ms.frees_take s k h)
  rw [List.length_append, List.length_singleton] at this
  exact this
theorem graft_eq (s : Ms) (p t : Int) (d k : Nat) : graft s p t d k = (s.take k).setW t.toNat (index p (3 - d : Nat)).toNat (tabW k (3 - d)) := rfl
theorem tabW_range {k : Int} (h0 : 0 ≤ k) (h1 : k < 1048576) {L : Nat} (hL : 0 < L) (hL3 : L ≤ 3) : 0 ≤ tabW k L ∧ tabW k L < 18446744073709551616 := by
  have hf := tabE_ok h0 h1 hL hL3
  have := wordE_ne (entOk_of hf rfl)
  unfold tabW encW
  rw [if_pos ⟨hf, rfl⟩]
  omega
theorem chain_ok {p lw : Int} {sz : Nat} (hp : InP p) (h3 : sz < 3) (hc : decC lw sz = 0) (hl : (decE lw sz).leaf = true) (hlw : 0 ≤ lw ∧ lw < 18446744073709551616) : ∀ (n d : Nat) (t : Int) (s : Ms) (r : Int) (gone : List Int) (X : Int → Prop), sz + n + d = 3 → s.Inv → s.n ≤ 128 → n ≤ s.frees.length →
    Wf s r gone X → (∀ u, X u → u = t) → Ends s r p d t → (eOf s p t (3 - d)).there = false →
    Wf (chain s p lw sz n t) r gone (fun _ => False) ∧ (chain s p lw sz n t).Inv ∧ (chain s p lw sz n t).n = s.n ∧ (chain s p lw sz n t).frees.length + n = s.frees.length ∧
    ∀ q, InP q → if q / pow8 sz = p / pow8 sz then mapAt (chain s p lw sz n t) r q = some (leafMap (decE lw sz) sz q) ∧ (way (chain s p lw sz n t) r q).e = decE lw sz else (mapAt (chain s p lw sz n t) r q = mapAt s r q ∧ (mapAt s r q ≠ none → way (chain s p lw sz n t) r q = way s r q)) := by
  intro n
  induction n with
  | zero =>
    intro d t s r gone X hd hi hn hf hw hX he ht
    have e3 : 3 - d = sz := by omega
    have hv : stopW lw (3 - d) := by
      rw [e3]
      exact ⟨hc, fun h => by rw [hl] at h; cases h.2⟩
    have hlw0 : lw ≠ 0 := by
      intro h0
      rw [h0, (dec_zero (by omega)).2] at hl
      cases hl
    have hW := hw.put hp he.le he.tab he.no hv
    have es : chain s p lw sz 0 t = putAt s p t d lw := by unfold chain putAt; rw [e3]
    rw [es]
    refine ⟨hW.mono ?_, hi.setW _ _ hlw, rfl, rfl, fun q hq => ?_⟩
    · rintro u (⟨a, b⟩ | ⟨a, b⟩)
      · rcases b with b | b
        · exact hlw0 b
        · exact b (hX u a)
      · exact hlw0 a
    · obtain ⟨e, u, hu⟩ := hw.ends q hq
      obtain ⟨hu', hE⟩ := put_ends hw hp he.le he.tab he.no hv hq hu
      by_cases hpre : q / pow8 sz = p / pow8 sz
      · rw [if_pos hpre]
        rw [← e3] at hpre
        obtain ⟨hs, _⟩ := he.same hp hq hpre
        obtain ⟨rfl, rfl⟩ := hs.unique hu
        rw [if_pos ⟨rfl, hpre⟩] at hE
        rw [mapAt_ends hq hu', hE, way_ends hq.1 hq.2 hu', hE, e3, if_pos hl]
        exact ⟨rfl, rfl⟩
      · rw [if_neg hpre]
        rw [if_neg (by rw [e3]; exact fun h => hpre h.2)] at hE
        rw [mapAt_ends hq hu', mapAt_ends hq hu, hE]
        refine ⟨rfl, fun _ => ?_⟩
        rw [way_ends hq.1 hq.2 hu', way_ends hq.1 hq.2 hu, hE]
        have : tabsD (putAt s p t d lw) r q (e + 1) = tabsD s r q (e + 1) := by
          unfold tabsD
          refine List.map_congr_left fun x hx => ?_
          rw [put_tab hw hp he.le he.tab he.no hv hq x (by have := List.mem_range.1 hx; have := hu.le; omega)]
        rw [this]
  | succ n ih =>
    intro d t s r gone X hd hi hn hf hw hX he ht
    obtain ⟨k, hk⟩ := top_of (show 0 < s.frees.length by omega)
    obtain ⟨hkn, hkt⟩ := Ms.top_lt hi hk
    have hd2 : d ≤ 2 := by omega
    have e3 : 3 - d = sz + n + 1 := by omega
    have es : chain s p lw sz (n + 1) t = chain (graft s p t d k) p lw sz n k := by
      rw [graft_eq, e3]
      conv => lhs; unfold chain
      rw [hk]
    have hG := hw.graft he hp hd2 hkt hkn hn
    have hgE := fun q (hq : InP q) e u hu => graft_ends (e := e) (u := u) hw he hp hd2 hkt hkn hn hq hu
    have hEnd := hgE p hp d t he
    rw [if_pos rfl] at hEnd
    have hGi : (graft s p t d k).Inv := (hi.take hk).setW _ _ (tabW_range (by omega) (by omega) (by omega) (by omega))
    have hGf : (graft s p t d k).frees.length + 1 = s.frees.length := frees_take_len hk
    have hGn : (graft s p t d k).n = s.n := rfl
    have hE0 : (eOf (graft s p t d k) p k (3 - (d + 1))).there = false := by
      rw [show 3 - (d + 1) = 2 - d by omega, hEnd.2]; rfl
    obtain ⟨i1, i2, i3, i4, i5⟩ := ih (d + 1) k (graft s p t d k) r gone _ (by omega) hGi (by omega) (by omega) hG (fun u hu => by
      rcases hu with ⟨a, b⟩ | a
      · exact absurd (hX u a) b
      · exact a) hEnd.1 hE0
    rw [es]
    refine ⟨i1, i2, i3.trans hGn, by omega, fun q hq => ?_⟩
    have hm : mapAt (graft s p t d k) r q = mapAt s r q ∧ (mapAt s r q ≠ none → way (graft s p t d k) r q = way s r q) := by
      obtain ⟨e, u, hu⟩ := hw.ends q hq
      have hg := hgE q hq e u hu
      split at hg
      · rename_i hpre
        obtain ⟨hs, hsE⟩ := he.same hp hq hpre
        obtain ⟨rfl, rfl⟩ := hs.unique hu
        have hz := (he.not ht).1
        have e2 : mapAt s r q = none := by rw [mapAt_ends hq hu, hsE, hz]; rfl
        rw [e2]
        refine ⟨?_, fun h => absurd rfl h⟩
        rw [mapAt_ends hq hg.1, show 3 - (d + 1) = 2 - d by omega, hg.2]
        rfl
      · rename_i hpre
        refine ⟨by rw [mapAt_ends hq hg.1, hg.2, mapAt_ends hq hu], fun _ => ?_⟩
        rw [way_ends hq.1 hq.2 hg.1, way_ends hq.1 hq.2 hu, hg.2]
        have : tabsD (graft s p t d k) r q (e + 1) = tabsD s r q (e + 1) := by
          unfold tabsD
          refine List.map_congr_left fun x hx => ?_
          rw [graft_tab hw he hp hd2 hkt hkn hn hq x (by have := List.mem_range.1 hx; have := hu.le; omega), if_neg (fun y => hpre y.2)]
        rw [this]
    have := i5 q hq
    split at this
    · rename_i hpre
      rw [if_pos hpre]
      exact this
    · rename_i hpre
      rw [if_neg hpre]
      refine ⟨this.1.trans hm.1, fun hne => ?_⟩
      rw [this.2 (by rw [hm.1]; exact hne), hm.2 hne]
end Go.Proofs.Ytmfheghbgihdmaa
namespace Go.Proofs.Ytmfheghbgihdmaa
open Go.RowKit
def leafE (x : Mp) : En := ⟨true, true, x.rights, false, false, x.frame⟩
/-- table.Insert. -/
def insC (s : Ms) (r : Int) (x : Mp) : Int :=
  if check x ≠ 0 then check x
  else if (way s r x.page).code ≠ 0 then (way s r x.page).code
  else if (way s r x.page).e.there = true ∨ (way s r x.page).lev < x.size then 4
  else if (s.frees.length : Int) < (way s r x.page).lev - x.size then 6 else 0
def insS (s : Ms) (r : Int) (x : Mp) : Ms :=
  if insC s r x = 0 then chain s x.page (encW (leafE x) x.size) x.size.toNat ((way s r x.page).lev - x.size).toNat ((way s r x.page).tabs.getLastD 0) else s
/-- table.Find. -/
def findC (s : Ms) (r p : Int) : Int := if (way s r p).code ≠ 0 then (way s r p).code else if (way s r p).e.there = false then 5 else 0
def findM (s : Ms) (r p : Int) : Mp := if findC s r p = 0 then leafMap (way s r p).e (way s r p).lev p else Mp.zero
def findE (s : Ms) (r p : Int) : En := if findC s r p = 0 then (way s r p).e else En.zero
def allZ (s : Ms) (t : Int) : Bool := (List.range 8).all fun i => wordV s t i == 0
/-- The word on the way in the k-th table goes; and the table, if nothing is in it then; and so on. -/
def cutR (p : Int) (tabs : List Int) : Nat → Ms → Ms × List Int
  | 0, s => (s.setW (tabs.getD 0 0).toNat (index p (3 : Nat)).toNat 0, [])
  | k + 1, s =>
    if allZ (s.setW (tabs.getD (k + 1) 0).toNat (index p (3 - (k + 1) : Nat)).toNat 0) (tabs.getD (k + 1) 0) = true then
      ((cutR p tabs k (s.setW (tabs.getD (k + 1) 0).toNat (index p (3 - (k + 1) : Nat)).toNat 0)).1, tabs.getD (k + 1) 0 :: (cutR p tabs k (s.setW (tabs.getD (k + 1) 0).toNat (index p (3 - (k + 1) : Nat)).toNat 0)).2)
    else (s.setW (tabs.getD (k + 1) 0).toNat (index p (3 - (k + 1) : Nat)).toNat 0, [])
/-- table.Remove. -/
def remS (s : Ms) (r p : Int) : Ms := if findC s r p = 0 then (cutR p (way s r p).tabs ((way s r p).tabs.length - 1) s).1 else s
def remG (s : Ms) (r p : Int) : List Int := if findC s r p = 0 then (cutR p (way s r p).tabs ((way s r p).tabs.length - 1) s).2 else []
/-- table.Protect. -/
def prC (s : Ms) (r p ri : Int) : Int := if ri < 0 ∨ 7 < ri then 1 else findC s r p
def prM (s : Ms) (r p ri : Int) : Mp := if prC s r p ri = 0 then { findM s r p with rights := ri } else Mp.zero
def prS (s : Ms) (r p ri : Int) : Ms :=
  if prC s r p ri = 0 then s.setW ((way s r p).tabs.getLastD 0).toNat (index p (way s r p).lev).toNat (encW { (way s r p).e with rights := ri } (way s r p).lev) else s
theorem allZ_iff {s : Ms} {t : Int} : allZ s t = true ↔ ∀ i : Nat, i < 8 → wordV s t i = 0 := by
  unfold allZ
  rw [List.all_eq_true]
  constructor
  · intro h i hi
    have := h i (List.mem_range.2 hi)
    simpa using this
  · intro h i hi
    have := h i (List.mem_range.1 hi)
    simpa using this
theorem tabsD_last {s : Ms} {r p t : Int} {d : Nat} (h : tabD s r p d = some t) : (tabsD s r p (d + 1)).getLastD 0 = t := by rw [tabsD_succ h]; simp
theorem tabsD_get {s : Ms} {r p t : Int} {d n : Nat} (h : tabD s r p d = some t) (hn : d < n) : (tabsD s r p n).getD d 0 = t := by
  unfold tabsD
  rw [List.getD_eq_getElem?_getD, List.getElem?_map, List.getElem?_range hn]
  simp [h]
theorem wayE_map {s : Ms} {r : Int} {gone : List Int} {X : Int → Prop} (hw : Wf s r gone X) {p : Int} (hp : InP p) : (way s r p).code = 0 ∧ ((way s r p).e.there = true ↔ (way s r p).e.leaf = true) := by
  obtain ⟨d, t, he⟩ := hw.ends p hp
  rw [way_ends hp.1 hp.2 he]
  refine ⟨rfl, fun h => he.leafOf h, fun h => (dec_leaf he.dec h).1⟩
theorem find_out {s : Ms} {r p : Int} (hp : ¬ InP p) : (way s r p).code = 1 := by
  unfold way
  rw [if_neg]
  · rfl
  · unfold hasB
    rw [Bool.and_eq_true, decide_eq_true_eq, decide_eq_true_eq]
    exact hp
section
variable {s : Ms} {r : Int} {gone : List Int} {X : Int → Prop}
theorem Wf.find (hw : Wf s r gone X) {p : Int} (hp : InP p) : findC s r p = (if (mapAt s r p).isSome then 0 else 5) ∧ findM s r p = (mapAt s r p).getD Mp.zero := by
  obtain ⟨h1, h2⟩ := wayE_map hw hp
  unfold findM findC mapAt
  rw [h1, if_neg (by simp)]
  by_cases hl : (way s r p).e.leaf = true
  · have ht := h2.2 hl
    rw [if_pos hl, if_neg (by rw [ht]; simp)]
    simp
  · have ht : (way s r p).e.there = false := by
      cases h : (way s r p).e.there with
      | true => exact absurd (h2.1 h) hl
      | false => rfl
    rw [if_neg hl, if_pos ht]
    simp
theorem Wf.no_root (hw : Wf s r gone (fun u => u = r)) : Wf s r gone (fun _ => False) := by
  refine ⟨hw.ends, hw.inj, fun p d t hp hd ht => ?_, hw.use, hw.nd, hw.gz, hw.gt⟩
  rcases hw.full p d t hp hd ht with rfl | h
  · have := (hw.inj p p (d + 1) 0 t hp hp (by omega) (by omega) ht rfl).1
    omega
  · exact .inr h
theorem Wf.no_full {t : Int} (hw : Wf s r gone (fun u => u = t)) (h : allZ s t = false) : Wf s r gone (fun _ => False) := by
  refine ⟨hw.ends, hw.inj, fun p d u hp hd hu => ?_, hw.use, hw.nd, hw.gz, hw.gt⟩
  rcases hw.full p d u hp hd hu with rfl | h'
  · refine .inr ?_
    apply Classical.byContradiction
    intro hn
    have : allZ s u = true := allZ_iff.2 fun i hi => Classical.byContradiction fun hne => hn ⟨i, hi, hne⟩
    rw [this] at h; cases h
  · exact .inr h'
/-- The tables that go, one after the other. -/
theorem cutR_ok {p : Int} (hp : InP p) : ∀ (k : Nat) (s : Ms) (r : Int) (gone : List Int) (t : Int) (tabs : List Int), k ≤ 2 → s.Inv → Wf s r gone (fun u => u = t) → tabD s r p (k + 1) = some t → allZ s t = true → (∀ j, j ≤ k → tabs.getD j 0 = (tabD s r p j).getD 0) →
    Wf (cutR p tabs k s).1 r ((cutR p tabs k s).2.reverse ++ t :: gone) (fun _ => False) ∧ (cutR p tabs k s).1.Inv ∧ (cutR p tabs k s).1.n = s.n ∧ (cutR p tabs k s).1.frees = s.frees ∧ (∀ u, (cutR p tabs k s).1.tk u = s.tk u) ∧
    ∀ q, InP q → mapAt (cutR p tabs k s).1 r q = mapAt s r q ∧ (mapAt s r q ≠ none → way (cutR p tabs k s).1 r q = way s r q) := by
  intro k
  induction k with
  | zero =>
    intro s r gone t tabs hk hi hw ht hz htabs
    have hz' := allZ_iff.1 hz
    have h0 : tabs.getD 0 0 = r := htabs 0 (Nat.le_refl _)
    have hC := hw.cut hp (show 0 ≤ 2 by omega) (show tabD s r p 0 = some r from rfl) ht hz'
    have es : (cutR p tabs 0 s).1 = cutAt s p r 0 := by unfold cutR; rw [h0]
    have eg : (cutR p tabs 0 s).2 = [] := rfl
    rw [es, eg]
    refine ⟨(hC.mono ?_).no_root, hi.setW _ _ (by omega), rfl, rfl, fun _ => rfl, fun q hq => ?_⟩
    · rintro u (⟨a, b⟩ | a)
      · exact absurd a b
      · exact a
    · obtain ⟨e, x, hx⟩ := hw.ends q hq
      have hg := cut_ends hw hp (show 0 ≤ 2 by omega) (show tabD s r p 0 = some r from rfl) ht hz' hq hx
      split at hg
      · rename_i hpre
        have hq' : tabD s r q (0 + 1) = some t := by
          rw [← ht]
          exact tabD_prefix s r hq hp 1 (by omega) hpre
        have i2 := index_range hq (show 3 - (0 + 1) ≤ 3 by omega)
        have hw0 : wordV s t (index q (3 - (0 + 1) : Nat)) = 0 := by
          have := hz' (index q (3 - (0 + 1) : Nat)).toNat (by omega)
          rwa [Int.toNat_of_nonneg i2.1] at this
        have hnone : mapAt s r q = none := by
          have he1 : Ends s r q (0 + 1) t := ⟨by omega, hq', (hw.at_ hq (by omega) hq').1, (hw.at_ hq (by omega) hq').2, goB_zero (by omega) hw0⟩
          rw [mapAt_ends hq he1, eOf_zero (by omega) hw0]
          rfl
        rw [hnone]
        refine ⟨?_, fun h => absurd rfl h⟩
        rw [mapAt_ends hq hg.1, hg.2]
        rfl
      · rename_i hpre
        refine ⟨by rw [mapAt_ends hq hg.1, hg.2, mapAt_ends hq hx], fun _ => ?_⟩
        rw [way_ends hq.1 hq.2 hg.1, way_ends hq.1 hq.2 hx, hg.2]
        have : tabsD (cutAt s p r 0) r q (e + 1) = tabsD s r q (e + 1) := by
          unfold tabsD
          refine List.map_congr_left fun y hy => ?_
          rw [cut_tab hw hp (show 0 ≤ 2 by omega) (show tabD s r p 0 = some r from rfl) ht hz' hq y (by have := List.mem_range.1 hy; have := hx.le; omega), if_neg (fun z => hpre z.2)]
        rw [this]
  | succ k ih =>
    intro s r gone t tabs hk hi hw ht hz htabs
    have hz' := allZ_iff.1 hz
    obtain ⟨u, hu⟩ := tabD_some_mono ht (show k + 1 ≤ k + 1 + 1 by omega)
    have h0 : tabs.getD (k + 1) 0 = u := by rw [htabs (k + 1) (Nat.le_refl _), hu]; rfl
    have hC := hw.cut hp (show k + 1 ≤ 2 by omega) hu ht hz'
    have hCi : (cutAt s p u (k + 1)).Inv := hi.setW _ _ (by omega)
    have hmap : ∀ q, InP q → mapAt (cutAt s p u (k + 1)) r q = mapAt s r q ∧ (mapAt s r q ≠ none → way (cutAt s p u (k + 1)) r q = way s r q) := by
      intro q hq
      obtain ⟨e, x, hx⟩ := hw.ends q hq
      have hg := cut_ends hw hp (show k + 1 ≤ 2 by omega) hu ht hz' hq hx
      split at hg
      · rename_i hpre
        have hq' : tabD s r q (k + 1 + 1) = some t := by
          rw [← ht]
          exact tabD_prefix s r hq hp (k + 1 + 1) (by omega) (by rw [show 4 - (k + 1 + 1) = 3 - (k + 1) by omega]; exact hpre)
        have i2 := index_range hq (show 3 - (k + 1 + 1) ≤ 3 by omega)
        have hw0 : wordV s t (index q (3 - (k + 1 + 1) : Nat)) = 0 := by
          have := hz' (index q (3 - (k + 1 + 1) : Nat)).toNat (by omega)
          rwa [Int.toNat_of_nonneg i2.1] at this
        have hnone : mapAt s r q = none := by
          have he1 : Ends s r q (k + 1 + 1) t := ⟨by omega, hq', (hw.at_ hq (by omega) hq').1, (hw.at_ hq (by omega) hq').2, goB_zero (by omega) hw0⟩
          rw [mapAt_ends hq he1, eOf_zero (by omega) hw0]
          rfl
        rw [hnone]
        refine ⟨?_, fun h => absurd rfl h⟩
        rw [mapAt_ends hq hg.1, hg.2]
        rfl
      · rename_i hpre
        refine ⟨by rw [mapAt_ends hq hg.1, hg.2, mapAt_ends hq hx], fun _ => ?_⟩
        rw [way_ends hq.1 hq.2 hg.1, way_ends hq.1 hq.2 hx, hg.2]
        have : tabsD (cutAt s p u (k + 1)) r q (e + 1) = tabsD s r q (e + 1) := by
          unfold tabsD
          refine List.map_congr_left fun y hy => ?_
          rw [cut_tab hw hp (show k + 1 ≤ 2 by omega) hu ht hz' hq y (by have := List.mem_range.1 hy; have := hx.le; omega), if_neg (fun z => hpre z.2)]
        rw [this]
    have hX : Wf (cutAt s p u (k + 1)) r (t :: gone) (fun x => x = u) := hC.mono (by
      rintro x (⟨a, b⟩ | a)
      · exact absurd a b
      · exact a)
    have hpar : ∀ j, j ≤ k + 1 → tabD (cutAt s p u (k + 1)) r p j = tabD s r p j := fun j hj => by
      rw [cut_tab hw hp (show k + 1 ≤ 2 by omega) hu ht hz' hp j (by omega), if_neg (by omega)]
    have ez : s.setW (tabs.getD (k + 1) 0).toNat (index p (3 - (k + 1) : Nat)).toNat 0 = cutAt s p u (k + 1) := by rw [h0]
    unfold cutR
    rw [ez, h0]
    by_cases hzu : allZ (cutAt s p u (k + 1)) u = true
    · rw [if_pos hzu]
      obtain ⟨i1, i2, i3, i4, i5, i6⟩ := ih (cutAt s p u (k + 1)) r (t :: gone) u tabs (by omega) hCi hX (by rw [hpar (k + 1) (by omega)]; exact hu) hzu (fun j hj => by rw [hpar j (by omega)]; exact htabs j (by omega))
      refine ⟨?_, i2, i3, i4, i5, fun q hq => ?_⟩
      · rw [List.reverse_cons, List.append_assoc]
        exact i1
      · have a := i6 q hq
        have b := hmap q hq
        refine ⟨a.1.trans b.1, fun hne => ?_⟩
        rw [a.2 (by rw [b.1]; exact hne), b.2 hne]
    · rw [if_neg hzu]
      exact ⟨hX.no_full (by simpa using hzu), hCi, rfl, rfl, fun _ => rfl, hmap⟩
end
end Go.Proofs.Ytmfheghbgihdmaa
