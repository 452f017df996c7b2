/- Ways through tables as plain Lean, with no program in sight. -/
import Derived.Test.YtndhgomikpokpaaMs
import Derived.Test.YtndhgomikpokpaaEnt
import Derived.Test.YtndhgomikpokpaaBookM
namespace Go.Proofs.Ytndhgomikpokpaa
open Go.RowKit

/-- A word of a table. -/
def wordV (s : Ms) (t i : Int) : Int := s.wd t.toNat i.toNat
/-- What a look for the way to a page comes to. -/
structure Wy where
  code : Int
  tabs : List Int
  lev : Int
  e : En
def Wy.err (c : Int) : Wy := ⟨c, [], 0, En.zero⟩
/-- One table on the way. -/
def wayStep (s : Ms) (p : Int) (L : Nat) (t : Int) (acc : List Int) (next : Int → Wy) : Wy :=
  if s.has t = false then .err 12
  else if decC (wordV s t (index p L)) L ≠ 0 then .err (decC (wordV s t (index p L)) L)
  else if (decE (wordV s t (index p L)) L).there = false ∨ (decE (wordV s t (index p L)) L).leaf = true then ⟨0, acc ++ [t], L, decE (wordV s t (index p L)) L⟩
  else next (decE (wordV s t (index p L)) L).frame
def wayA (s : Ms) (p : Int) : Nat → Int → List Int → Wy
  | 0, t, acc => wayStep s p 0 t acc fun _ => .err 7
  | L + 1, t, acc => wayStep s p (L + 1) t acc fun f => wayA s p L f (acc ++ [t])
/-- The way to a page, from a root on. -/
def way (s : Ms) (root p : Int) : Wy := if hasB p = true then wayA s p 3 root [] else .err 1

theorem dec0_leaf {w : Int} (_ : decC w 0 = 0) : (decE w 0).there = false ∨ (decE w 0).leaf = true := by
  unfold decE
  split
  · right; rfl
  · left; rfl
theorem wayA_free {s : Ms} {p : Int} {L : Nat} {t : Int} {acc : List Int} (h : s.has t = false) : wayA s p L t acc = .err 12 := by
  cases L <;> (unfold wayA wayStep; rw [if_pos h])
theorem wayA_bad {s : Ms} {p : Int} {L : Nat} {t : Int} {acc : List Int} (h : s.has t = true) (hc : decC (wordV s t (index p L)) L ≠ 0) : wayA s p L t acc = .err (decC (wordV s t (index p L)) L) := by
  cases L <;> (unfold wayA wayStep; rw [if_neg (by rw [h]; simp), if_pos hc])
theorem wayA_end {s : Ms} {p : Int} {L : Nat} {t : Int} {acc : List Int} (h : s.has t = true) (hc : decC (wordV s t (index p L)) L = 0)
    (he : (decE (wordV s t (index p L)) L).there = false ∨ (decE (wordV s t (index p L)) L).leaf = true) : wayA s p L t acc = ⟨0, acc ++ [t], L, decE (wordV s t (index p L)) L⟩ := by
  cases L <;> (unfold wayA wayStep; rw [if_neg (by rw [h]; simp), if_neg (by rw [hc]; simp), if_pos he])
theorem wayA_on {s : Ms} {p : Int} {L : Nat} {t : Int} {acc : List Int} (h : s.has t = true) (hc : decC (wordV s t (index p L)) L = 0)
    (he : ¬ ((decE (wordV s t (index p L)) L).there = false ∨ (decE (wordV s t (index p L)) L).leaf = true)) : ∃ K, L = K + 1 ∧ wayA s p L t acc = wayA s p K (decE (wordV s t (index p L)) L).frame (acc ++ [t]) := by
  cases L with
  | zero => exact absurd (dec0_leaf hc) he
  | succ K =>
    refine ⟨K, rfl, ?_⟩
    conv => lhs; unfold wayA wayStep
    rw [if_neg (by rw [h]; simp), if_neg (by rw [hc]; simp), if_neg he]
theorem wayA_len (s : Ms) (p : Int) : ∀ (L : Nat) (t : Int) (acc : List Int), (wayA s p L t acc).code = 0 → 0 ≤ (wayA s p L t acc).lev ∧ (wayA s p L t acc).lev ≤ L ∧ (wayA s p L t acc).tabs.length = acc.length + 1 + (L - (wayA s p L t acc).lev.toNat) := by
  intro L
  induction L with
  | zero =>
    intro t acc hc
    cases h : s.has t with
    | false => rw [wayA_free h] at hc; cases hc
    | true =>
      by_cases hd : decC (wordV s t (index p (0 : Nat))) (0 : Nat) = 0
      · rw [wayA_end h hd (dec0_leaf hd)]
        simp
      · rw [wayA_bad h hd] at hc
        exact absurd hc hd
  | succ L ih =>
    intro t acc hc
    cases h : s.has t with
    | false => rw [wayA_free h] at hc; cases hc
    | true =>
      by_cases hd : decC (wordV s t (index p (L + 1 : Nat))) (L + 1 : Nat) = 0
      · by_cases he : (decE (wordV s t (index p (L + 1 : Nat))) (L + 1 : Nat)).there = false ∨ (decE (wordV s t (index p (L + 1 : Nat))) (L + 1 : Nat)).leaf = true
        · rw [wayA_end h hd he]
          simp
          omega
        · obtain ⟨K, hK, e⟩ := wayA_on (acc := acc) h hd he
          obtain rfl : L = K := by omega
          rw [e] at hc ⊢
          obtain ⟨a, b, c⟩ := ih _ _ hc
          rw [List.length_append, List.length_singleton] at c
          refine ⟨a, by omega, by omega⟩
      · rw [wayA_bad h hd] at hc
        exact absurd hc hd

/-- A visit of an entry: its table, level, the way to it, and it. -/
structure Vis where
  t : Int
  lev : Int
  at_ : Int
  e : En
structure Vs where
  code : Int
  vs : List Vis
/-- The entries of a table from the i-th on, and all below them. -/
def scanV (s : Ms) (L : Nat) (t a : Int) (sub : Int → Int → Vs) : List Nat → Vs
  | [] => ⟨0, []⟩
  | i :: is =>
    if decC (wordV s t i) L ≠ 0 then ⟨decC (wordV s t i) L, []⟩
    else
      let e := decE (wordV s t i) L
      let r : Vs := if e.there = true ∧ e.leaf = false then sub e.frame (a * 8 + i) else ⟨0, []⟩
      if r.code ≠ 0 then ⟨r.code, ⟨t, L, a * 8 + i, e⟩ :: r.vs⟩
      else ⟨(scanV s L t a sub is).code, ⟨t, L, a * 8 + i, e⟩ :: (r.vs ++ (scanV s L t a sub is).vs)⟩
/-- walk's each. -/
def eachV (s : Ms) : Nat → Int → Int → Vs
  | 0, t, a => if s.has t = false then ⟨12, []⟩ else scanV s 0 t a (fun _ _ => ⟨7, []⟩) (List.range 8)
  | L + 1, t, a => if s.has t = false then ⟨12, []⟩ else scanV s (L + 1) t a (eachV s L) (List.range 8)
/-- What goes on below a table of a level. -/
def subV (s : Ms) : Nat → Int → Int → Vs
  | 0 => fun _ _ => ⟨7, []⟩
  | L + 1 => eachV s L
theorem eachV_eq (s : Ms) (L : Nat) (t a : Int) : eachV s L t a = if s.has t = false then ⟨12, []⟩ else scanV s L t a (subV s L) (List.range 8) := by
  cases L <;> rfl
def mapsOf (vs : List Vis) : List Mp := vs.filterMap fun v => if v.e.leaf = true then some (leafMap v.e v.lev (v.at_ * pow8 v.lev.toNat)) else none
def tabsOf (vs : List Vis) : List Int := vs.filterMap fun v => if v.e.there = true ∧ v.e.leaf = false then some v.e.frame else none
/-- How many entries may be visited. -/
def most : Nat → Nat | 0 => 8 | L + 1 => 8 + 8 * most L
theorem scanV_len (s : Ms) (L : Nat) (t a : Int) (sub : Int → Int → Vs) (m : Nat) (h : ∀ f p, (sub f p).vs.length ≤ m) : ∀ is : List Nat, (scanV s L t a sub is).vs.length ≤ is.length * (1 + m)
  | [] => by simp [scanV]
  | i :: is => by
    have ih := scanV_len s L t a sub m h is
    have h0 : (is.length + 1) * (1 + m) = is.length * (1 + m) + (1 + m) := by rw [Nat.add_mul, Nat.one_mul]
    unfold scanV
    rw [List.length_cons, h0]
    split
    · simp
    · have hr : (if (decE (wordV s t i) L).there = true ∧ (decE (wordV s t i) L).leaf = false then sub (decE (wordV s t i) L).frame (a * 8 + i) else (⟨0, []⟩ : Vs)).vs.length ≤ m := by
        split
        · exact h _ _
        · simp
      dsimp only
      generalize (if (decE (wordV s t i) L).there = true ∧ (decE (wordV s t i) L).leaf = false then sub (decE (wordV s t i) L).frame (a * 8 + i) else (⟨0, []⟩ : Vs)) = r at *
      split
      · simp only [List.length_cons]; omega
      · simp only [List.length_cons, List.length_append]; omega
theorem eachV_len (s : Ms) : ∀ (L : Nat) (t a : Int), (eachV s L t a).vs.length ≤ most L
  | 0, t, a => by
    rw [eachV_eq]
    split
    · simp
    · have := scanV_len s 0 t a (subV s 0) 0 (fun _ _ => Nat.le_refl _) (List.range 8)
      simpa [most] using this
  | L + 1, t, a => by
    rw [eachV_eq]
    split
    · simp
    · have := scanV_len s (L + 1) t a (subV s (L + 1)) (most L) (fun f p => eachV_len s L f p) (List.range 8)
      simp only [List.length_range] at this
      unfold most
      omega
end Go.Proofs.Ytndhgomikpokpaa

namespace Go.Proofs.Ytndhgomikpokpaa
open Go.RowKit

theorem pow8_succ (n : Nat) : pow8 (n + 1) = 8 * pow8 n := rfl
theorem pow8_pos' : ∀ n : Nat, 0 < pow8 n
  | 0 => by decide
  | n + 1 => by have := pow8_pos' n; rw [pow8_succ]; omega
theorem dec_leaf {w l : Int} (hc : decC w l = 0) (hl : (decE w l).leaf = true) : (decE w l).there = true ∧ 0 ≤ l ∧ l < 3 ∧ span l = pow8 l.toNat ∧ entFault (decE w l) l = 0 := by
  have hf := (enc_dec hc).1
  have ht : (decE w l).there = true := by
    cases h : (decE w l).there with
    | true => rfl
    | false =>
      have := entFault_not hf h
      rw [this] at hl
      cases hl
  have hk := entOk_of hf ht
  have h3 := (hk.leaf hl).1
  have h0 := hk.l0
  refine ⟨ht, h0, h3, ?_, hf⟩
  have : l = 0 ∨ l = 1 ∨ l = 2 := by omega
  rcases this with rfl | rfl | rfl <;> rfl
/-- What the i-th entry of a table gives to a list. -/
def contr (s : Ms) (L : Nat) (t a : Int) (i : Nat) : List Mp :=
  let e := decE (wordV s t i) L
  if e.leaf = true then [leafMap e L ((a * 8 + i) * pow8 L)] else if e.there = true then mapsOf (subV s L e.frame (a * 8 + i)).vs else []
def contrT (s : Ms) (L : Nat) (t a : Int) (i : Nat) : List Int :=
  let e := decE (wordV s t i) L
  if e.there = true ∧ e.leaf = false then e.frame :: tabsOf (subV s L e.frame (a * 8 + i)).vs else []
theorem mapsOf_cons (v : Vis) (l : List Vis) : mapsOf (v :: l) = (if v.e.leaf = true then [leafMap v.e v.lev (v.at_ * pow8 v.lev.toNat)] else []) ++ mapsOf l := by
  unfold mapsOf
  rw [List.filterMap_cons]
  split <;> rename_i h <;> (split at h <;> simp_all)
theorem mapsOf_append (a b : List Vis) : mapsOf (a ++ b) = mapsOf a ++ mapsOf b := List.filterMap_append
theorem tabsOf_cons (v : Vis) (l : List Vis) : tabsOf (v :: l) = (if v.e.there = true ∧ v.e.leaf = false then [v.e.frame] else []) ++ tabsOf l := by
  unfold tabsOf
  rw [List.filterMap_cons]
  split <;> rename_i h <;> (split at h <;> simp_all)
theorem tabsOf_append (a b : List Vis) : tabsOf (a ++ b) = tabsOf a ++ tabsOf b := List.filterMap_append
/-- A look over a table that told no code: each entry is one, each table below told none, and what it gives is what they give. -/
theorem scan_ok (s : Ms) (L : Nat) (t a : Int) : ∀ is : List Nat, (scanV s L t a (subV s L) is).code = 0 →
    (∀ i ∈ is, decC (wordV s t i) L = 0 ∧ ((decE (wordV s t i) L).there = true ∧ (decE (wordV s t i) L).leaf = false → (subV s L (decE (wordV s t i) L).frame (a * 8 + i)).code = 0)) ∧
    mapsOf (scanV s L t a (subV s L) is).vs = is.flatMap (contr s L t a) ∧ tabsOf (scanV s L t a (subV s L) is).vs = is.flatMap (contrT s L t a)
  | [], _ => ⟨fun i h => (by cases h), rfl, rfl⟩
  | i :: is, hc => by
    unfold scanV at hc ⊢
    by_cases hd : decC (wordV s t i) L = 0
    · rw [if_neg (by rw [hd]; simp)] at hc ⊢
      dsimp only at hc ⊢
      by_cases he : (decE (wordV s t i) L).there = true ∧ (decE (wordV s t i) L).leaf = false
      · rw [if_pos he] at hc ⊢
        by_cases hr : (subV s L (decE (wordV s t i) L).frame (a * 8 + i)).code = 0
        · rw [if_neg (by rw [hr]; simp)] at hc ⊢
          obtain ⟨h1, h2, h3⟩ := scan_ok s L t a is hc
          refine ⟨fun j hj => ?_, ?_, ?_⟩
          · rcases List.mem_cons.1 hj with rfl | hj
            · exact ⟨hd, fun _ => hr⟩
            · exact h1 j hj
          · rw [mapsOf_cons, mapsOf_append, h2, List.flatMap_cons]
            show _ ++ (_ ++ _) = contr s L t a i ++ _
            unfold contr
            dsimp only
            rw [he.2, he.1]
            simp
          · rw [tabsOf_cons, tabsOf_append, h3, List.flatMap_cons]
            show _ ++ (_ ++ _) = contrT s L t a i ++ _
            unfold contrT
            dsimp only
            rw [if_pos he, if_pos he]
            simp
        · rw [if_pos hr] at hc
          exact absurd hc hr
      · rw [if_neg he] at hc ⊢
        rw [if_neg (by simp)] at hc ⊢
        obtain ⟨h1, h2, h3⟩ := scan_ok s L t a is hc
        refine ⟨fun j hj => ?_, ?_, ?_⟩
        · rcases List.mem_cons.1 hj with rfl | hj
          · exact ⟨hd, fun h => absurd h he⟩
          · exact h1 j hj
        · rw [mapsOf_cons, List.nil_append, h2, List.flatMap_cons]
          show _ ++ _ = contr s L t a i ++ _
          unfold contr
          dsimp only
          by_cases hf : (decE (wordV s t i) L).leaf = true
          · rw [if_pos hf, if_pos hf]
            simp
          · rw [if_neg hf, if_neg hf, if_neg (fun ht => he ⟨ht, by simpa using hf⟩)]
        · rw [tabsOf_cons, List.nil_append, h3, List.flatMap_cons]
          show _ ++ _ = contrT s L t a i ++ _
          unfold contrT
          dsimp only
          rw [if_neg he, if_neg he]
    · rw [if_pos hd] at hc
      exact absurd hc hd
theorem flat8 {α : Type} (f : Nat → List α) (k : Nat) (hk : k < 8) (h : ∀ i, i < 8 → i ≠ k → f i = []) : (List.range 8).flatMap f = f k := by
  have e : List.range 8 = [0, 1, 2, 3, 4, 5, 6, 7] := rfl
  rw [e]
  have hk' : k = 0 ∨ k = 1 ∨ k = 2 ∨ k = 3 ∨ k = 4 ∨ k = 5 ∨ k = 6 ∨ k = 7 := by omega
  rcases hk' with rfl | rfl | rfl | rfl | rfl | rfl | rfl | rfl <;>
    simp (config := { decide := true }) only [List.flatMap_cons, List.flatMap_nil, h 0, h 1, h 2, h 3, h 4, h 5, h 6, h 7, List.nil_append, List.append_nil]
theorem flat8_nil {α : Type} (f : Nat → List α) (h : ∀ i, i < 8 → f i = []) : (List.range 8).flatMap f = [] := by
  rw [List.flatMap_eq_nil_iff]
  intro x hx
  exact h x (List.mem_range.1 hx)
theorem filter_flat {α β : Type} (p : β → Bool) (f : α → List β) (l : List α) : (l.flatMap f).filter p = l.flatMap fun x => (f x).filter p := by
  induction l with
  | nil => rfl
  | cons x l ih => rw [List.flatMap_cons, List.flatMap_cons, List.filter_append, ih]
/-- A leaf's mapping has just the pages whose ways lead to it. -/
theorem leaf_over {w : Int} {L : Nat} (hc : decC w L = 0) (hl : (decE w L).leaf = true) {b p : Int} (hb : 0 ≤ b) (hb' : b * pow8 L < 4096) (hp : 0 ≤ p) :
    over (leafMap (decE w L) L (b * pow8 L)) p = decide (p / pow8 L = b) ∧ (p / pow8 L = b → p < 4096 → leafMap (decE w L) L (b * pow8 L) = leafMap (decE w L) L p) := by
  obtain ⟨ht, h0, h3, hs, hf⟩ := dec_leaf hc hl
  rw [Int.toNat_natCast] at hs
  have hpos := pow8_pos' L
  have hbp : 0 ≤ b * pow8 L := Int.mul_nonneg hb (Int.le_of_lt hpos)
  have e1 : leafMap (decE w L) L (b * pow8 L) = ⟨b * pow8 L, L, (decE w L).frame, (decE w L).rights⟩ := by
    unfold leafMap
    rw [if_pos ⟨hf, hl, hbp, hb'⟩, hs, Int.mul_ediv_cancel _ (by omega)]
  have hL : L = 0 ∨ L = 1 ∨ L = 2 := by omega
  rw [e1]
  constructor
  · unfold over
    dsimp only
    rw [hs]
    rcases hL with rfl | rfl | rfl
    · show (decide (b * 1 ≤ p) && decide (p - b * 1 < 1)) = decide (p / 1 = b)
      by_cases h : p / 1 = b
      · rw [decide_eq_true h, decide_eq_true (by omega), decide_eq_true (by omega)]; rfl
      · rw [decide_eq_false h, Bool.and_eq_false_iff, decide_eq_false_iff_not, decide_eq_false_iff_not]; omega
    · show (decide (b * 8 ≤ p) && decide (p - b * 8 < 8)) = decide (p / 8 = b)
      by_cases h : p / 8 = b
      · rw [decide_eq_true h, decide_eq_true (by omega), decide_eq_true (by omega)]; rfl
      · rw [decide_eq_false h, Bool.and_eq_false_iff, decide_eq_false_iff_not, decide_eq_false_iff_not]; omega
    · show (decide (b * 64 ≤ p) && decide (p - b * 64 < 64)) = decide (p / 64 = b)
      by_cases h : p / 64 = b
      · rw [decide_eq_true h, decide_eq_true (by omega), decide_eq_true (by omega)]; rfl
      · rw [decide_eq_false h, Bool.and_eq_false_iff, decide_eq_false_iff_not, decide_eq_false_iff_not]; omega
  · intro h hp2
    unfold leafMap
    rw [if_pos ⟨hf, hl, hp, hp2⟩, hs, h]
theorem bnd {L : Nat} (hL : L ≤ 3) {a : Int} (_ : 0 ≤ a) (h : a * pow8 (L + 1) < 4096) {i : Nat} (hi : i < 8) : (a * 8 + i) * pow8 L < 4096 := by
  have : L = 0 ∨ L = 1 ∨ L = 2 ∨ L = 3 := by omega
  rcases this with rfl | rfl | rfl | rfl <;> simp [pow8] at h ⊢ <;> omega
theorem index_eq {p : Int} (h0 : 0 ≤ p) (h1 : p < 4096) {L : Nat} (hL : L ≤ 3) : index p L = ((p / pow8 L % 8).toNat : Int) := by
  unfold index
  rw [if_pos ⟨h0, h1, by omega, by omega⟩, Int.toNat_natCast]
  omega
/-- One table of it. -/
theorem list_step (s : Ms) (p : Int) (hp0 : 0 ≤ p) (hp1 : p < 4096) (L : Nat) (hL : L ≤ 3) (t a : Int) (acc : List Int)
    (ih : ∀ K, L = K + 1 → ∀ (t a : Int) (acc : List Int), (eachV s K t a).code = 0 → 0 ≤ a → a * pow8 (K + 1) < 4096 →
      (p / pow8 (K + 1) ≠ a → (mapsOf (eachV s K t a).vs).filter (fun m => over m p) = []) ∧
      (p / pow8 (K + 1) = a → (wayA s p K t acc).code = 0 ∧
        (mapsOf (eachV s K t a).vs).filter (fun m => over m p) = (if (wayA s p K t acc).e.leaf = true then [leafMap (wayA s p K t acc).e (wayA s p K t acc).lev p] else []) ∧
        (wayA s p K t acc).e.there = (wayA s p K t acc).e.leaf ∧ ∀ x ∈ (wayA s p K t acc).tabs, x ∈ acc ∨ x = t ∨ x ∈ tabsOf (eachV s K t a).vs))
    (hc : (eachV s L t a).code = 0) (ha : 0 ≤ a) (hb : a * pow8 (L + 1) < 4096) :
    (p / pow8 (L + 1) ≠ a → (mapsOf (eachV s L t a).vs).filter (fun m => over m p) = []) ∧
    (p / pow8 (L + 1) = a → (wayA s p L t acc).code = 0 ∧
      (mapsOf (eachV s L t a).vs).filter (fun m => over m p) = (if (wayA s p L t acc).e.leaf = true then [leafMap (wayA s p L t acc).e (wayA s p L t acc).lev p] else []) ∧
      (wayA s p L t acc).e.there = (wayA s p L t acc).e.leaf ∧ ∀ x ∈ (wayA s p L t acc).tabs, x ∈ acc ∨ x = t ∨ x ∈ tabsOf (eachV s L t a).vs) := by
  rw [eachV_eq] at hc ⊢
  cases hh : s.has t with
  | false => rw [hh] at hc; cases hc
  | true =>
    rw [hh] at hc
    rw [if_neg (by simp)] at hc ⊢
    obtain ⟨h1, h2, h3⟩ := scan_ok s L t a (List.range 8) hc
    rw [h2, h3]
    have hdiv : p / pow8 (L + 1) = p / pow8 L / 8 := by
      have := pow8_pos' L
      rw [pow8_succ, Int.mul_comm, Int.ediv_ediv_of_nonneg (by omega)]
    have hpos := pow8_pos' L
    have hq : 0 ≤ p / pow8 L := Int.ediv_nonneg hp0 (by omega)
    have hix := index_eq hp0 hp1 hL
    rw [hdiv, filter_flat]
    generalize hqq : p / pow8 L = q at *
    -- what does not lie on the way gives nothing
    have hoff : ∀ i : Nat, i < 8 → q ≠ a * 8 + i → (contr s L t a i).filter (fun m => over m p) = [] := fun i hi hne => by
      obtain ⟨hd, hsub⟩ := h1 i (List.mem_range.2 hi)
      have hbi := bnd hL ha hb hi
      unfold contr
      dsimp only
      split
      · rename_i hl
        have := (leaf_over hd hl (show 0 ≤ a * 8 + (i : Int) by omega) hbi hp0).1
        rw [hqq, decide_eq_false hne] at this
        rw [List.filter_cons, this]
        rfl
      · rename_i hl
        split
        · rename_i ht
          have hl' : (decE (wordV s t i) L).leaf = false := by simpa using hl
          have hcs := hsub ⟨ht, hl'⟩
          cases L with
          | zero => cases hcs
          | succ K =>
            refine (ih K rfl (decE (wordV s t i) (K + 1 : Nat)).frame (a * 8 + i) [] hcs (by omega) hbi).1 ?_
            rw [hqq]
            exact hne
        · rfl
    refine ⟨fun hne => flat8_nil _ fun i hi => hoff i hi (by omega), fun he => ?_⟩
    have hi8 : (q % 8).toNat < 8 := by omega
    have hon : q = a * 8 + ((q % 8).toNat : Int) := by omega
    rw [flat8 _ (q % 8).toNat hi8 (fun i hi hne => hoff i hi (by omega))]
    obtain ⟨hd, hsub⟩ := h1 _ (List.mem_range.2 hi8)
    have hbi := bnd hL ha hb hi8
    have hct : ∀ x ∈ contrT s L t a (q % 8).toNat, x ∈ (List.range 8).flatMap (contrT s L t a) := fun x hx => List.mem_flatMap.2 ⟨_, List.mem_range.2 hi8, hx⟩
    have hdw := hd
    rw [← hix] at hdw
    by_cases hend : (decE (wordV s t (index p L)) L).there = false ∨ (decE (wordV s t (index p L)) L).leaf = true
    · rw [wayA_end hh hdw hend]
      refine ⟨rfl, ?_, ?_, fun x hx => ?_⟩
      · rw [hix]
        unfold contr
        dsimp only
        by_cases hl : (decE (wordV s t ((q % 8).toNat : Nat)) L).leaf = true
        · rw [if_pos hl, if_pos hl]
          have := leaf_over hd hl (show 0 ≤ a * 8 + ((q % 8).toNat : Int) by omega) hbi hp0
          rw [hqq, decide_eq_true hon] at this
          rw [List.filter_cons, this.1, this.2 hon hp1]
          rfl
        · rw [if_neg hl, if_neg hl]
          rw [hix] at hend
          have ht : (decE (wordV s t ((q % 8).toNat : Nat)) L).there = false := by
            rcases hend with h | h
            · exact h
            · exact absurd h hl
          rw [if_neg (by rw [ht]; simp)]
          rfl
      · rcases hend with h | h
        · show (decE _ _).there = (decE _ _).leaf
          rw [h]
          cases hl : (decE (wordV s t (index p L)) L).leaf with
          | false => rfl
          | true => have := (dec_leaf hdw hl).1; rw [h] at this; cases this
        · show (decE _ _).there = (decE _ _).leaf
          rw [h, (dec_leaf hdw h).1]
      · rcases List.mem_append.1 hx with hx | hx
        · exact .inl hx
        · exact .inr (.inl (List.mem_singleton.1 hx))
    · obtain ⟨K, hK, e⟩ := wayA_on (acc := acc) hh hdw hend
      rw [e]
      have hne := hend
      rw [not_or] at hne
      have ht : (decE (wordV s t (index p L)) L).there = true := by simpa using hne.1
      have hl : (decE (wordV s t (index p L)) L).leaf = false := by simpa using hne.2
      subst hK
      rw [hix] at ht hl ⊢
      have hcs := hsub ⟨ht, hl⟩
      have hi := (ih K rfl (decE (wordV s t ((q % 8).toNat : Nat)) (K + 1 : Nat)).frame (a * 8 + ((q % 8).toNat : Int)) (acc ++ [t]) hcs (by omega) hbi).2 (by rw [hqq]; exact hon)
      obtain ⟨i1, i2, i3, i4⟩ := hi
      refine ⟨i1, ?_, i3, fun x hx => ?_⟩
      · unfold contr
        dsimp only
        rw [if_neg (by rw [hl]; simp), if_pos ht]
        exact i2
      · have hcT : contrT s (K + 1) t a (q % 8).toNat = (decE (wordV s t ((q % 8).toNat : Nat)) (K + 1 : Nat)).frame :: tabsOf (subV s (K + 1) (decE (wordV s t ((q % 8).toNat : Nat)) (K + 1 : Nat)).frame (a * 8 + ((q % 8).toNat : Int))).vs := by
          unfold contrT
          dsimp only
          rw [if_pos ⟨ht, hl⟩]
        rcases i4 x hx with h | h | h
        · rcases List.mem_append.1 h with h | h
          · exact .inl h
          · exact .inr (.inl (List.mem_singleton.1 h))
        · exact .inr (.inr (hct x (by rw [hcT, h]; exact List.mem_cons_self ..)))
        · exact .inr (.inr (hct x (by rw [hcT]; exact List.mem_cons_of_mem _ h)))
/-- A list of mappings is all ways. -/
theorem list_way (s : Ms) (p : Int) (hp0 : 0 ≤ p) (hp1 : p < 4096) : ∀ (L : Nat), L ≤ 3 → ∀ (t a : Int) (acc : List Int), (eachV s L t a).code = 0 → 0 ≤ a → a * pow8 (L + 1) < 4096 →
    (p / pow8 (L + 1) ≠ a → (mapsOf (eachV s L t a).vs).filter (fun m => over m p) = []) ∧
    (p / pow8 (L + 1) = a → (wayA s p L t acc).code = 0 ∧
      (mapsOf (eachV s L t a).vs).filter (fun m => over m p) = (if (wayA s p L t acc).e.leaf = true then [leafMap (wayA s p L t acc).e (wayA s p L t acc).lev p] else []) ∧
      (wayA s p L t acc).e.there = (wayA s p L t acc).e.leaf ∧ ∀ x ∈ (wayA s p L t acc).tabs, x ∈ acc ∨ x = t ∨ x ∈ tabsOf (eachV s L t a).vs) := by
  intro L
  induction L with
  | zero =>
    intro hL t a acc hc ha hb
    exact list_step s p hp0 hp1 0 hL t a acc (fun K hK => by omega) hc ha hb
  | succ L ih =>
    intro hL t a acc hc ha hb
    exact list_step s p hp0 hp1 (L + 1) hL t a acc (fun K hK => by
      have e : L = K := by omega
      subst e
      exact ih (by omega)) hc ha hb
end Go.Proofs.Ytndhgomikpokpaa
