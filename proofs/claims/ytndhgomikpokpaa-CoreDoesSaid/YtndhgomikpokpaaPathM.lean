/- Ways to pages, table by table, and what becomes of them: the plain law, with no program in sight. -/
import Derived.Test.YtndhgomikpokpaaWalkM
import Derived.Test.YtndhgomikpokpaaBookM
import Derived.Test.YtndhgomikpokpaaWalkerM
namespace Go.Proofs.Ytndhgomikpokpaa
open Go.RowKit

/-- The entry on the way to a page in a table of a level. -/
def eOf (s : Ms) (p t : Int) (L : Nat) : En := decE (wordV s t (index p L)) L
/-- Does the way go on below it? -/
def goB (s : Ms) (p t : Int) (L : Nat) : Bool := s.has t && (decide (decC (wordV s t (index p L)) L = 0) && ((eOf s p t L).there && !(eOf s p t L).leaf))
/-- The table on the way to a page, so many levels below the root. -/
def tabD (s : Ms) (r p : Int) : Nat → Option Int
  | 0 => some r
  | d + 1 => (tabD s r p d).bind fun u => if goB s p u (3 - d) = true then some (eOf s p u (3 - d)).frame else none
/-- The tables on the way, so many. -/
def tabsD (s : Ms) (r p : Int) (n : Nat) : List Int := (List.range n).map fun d => (tabD s r p d).getD 0
/-- The way ends in a table that is in use, at a word that is one and leads no further. -/
structure Ends (s : Ms) (r p : Int) (d : Nat) (t : Int) : Prop where
  le : d ≤ 3
  tab : tabD s r p d = some t
  use : s.has t = true
  dec : decC (wordV s t (index p (3 - d : Nat))) (3 - d : Nat) = 0
  no : goB s p t (3 - d) = false

theorem tabsD_succ {s : Ms} {r p t : Int} {d : Nat} (h : tabD s r p d = some t) : tabsD s r p (d + 1) = tabsD s r p d ++ [t] := by
  unfold tabsD
  rw [List.range_succ, List.map_append, List.map_singleton, h]
  rfl
theorem tabsD_len (s : Ms) (r p : Int) (n : Nat) : (tabsD s r p n).length = n := by simp [tabsD]
theorem tabD_succ {s : Ms} {r p t : Int} {d : Nat} : tabD s r p (d + 1) = some t ↔ ∃ u, tabD s r p d = some u ∧ goB s p u (3 - d) = true ∧ (eOf s p u (3 - d)).frame = t := by
  show (tabD s r p d).bind _ = some t ↔ _
  cases tabD s r p d with
  | none => simp
  | some u =>
    simp only [Option.bind_some, Option.some.injEq, exists_eq_left']
    split
    · rename_i h; simp [h]
    · rename_i h; simp [h]
theorem tabD_none {s : Ms} {r p t : Int} {d : Nat} (h : tabD s r p d = some t) (hg : goB s p t (3 - d) = false) : tabD s r p (d + 1) = none := by
  show (tabD s r p d).bind _ = none
  rw [h]
  simp [hg]
theorem tabD_none_mono {s : Ms} {r p : Int} {d : Nat} (h : tabD s r p d = none) : ∀ e, d ≤ e → tabD s r p e = none := by
  intro e he
  induction he with
  | refl => exact h
  | step _ ih => show (tabD s r p _).bind _ = none; rw [ih]; rfl
theorem tabD_some_mono {s : Ms} {r p t : Int} {e : Nat} (h : tabD s r p e = some t) {d : Nat} (hd : d ≤ e) : ∃ u, tabD s r p d = some u := by
  cases hh : tabD s r p d with
  | some u => exact ⟨u, rfl⟩
  | none => rw [tabD_none_mono hh e hd] at h; cases h
theorem goB_iff {s : Ms} {p t : Int} {L : Nat} : goB s p t L = true ↔ s.has t = true ∧ decC (wordV s t (index p L)) L = 0 ∧ (eOf s p t L).there = true ∧ (eOf s p t L).leaf = false := by
  unfold goB
  simp only [Bool.and_eq_true, decide_eq_true_eq, Bool.not_eq_true']
theorem Ends.unique {s : Ms} {r p t u : Int} {d e : Nat} (h : Ends s r p d t) (k : Ends s r p e u) : d = e ∧ t = u := by
  have h1 := tabD_none h.tab h.no
  have h2 := tabD_none k.tab k.no
  have hde : d = e := by
    rcases Nat.lt_trichotomy d e with hlt | rfl | hlt
    · have := tabD_none_mono h1 e hlt; rw [k.tab] at this; cases this
    · rfl
    · have := tabD_none_mono h2 d hlt; rw [h.tab] at this; cases this
  subst hde
  have := h.tab.symm.trans k.tab
  injection this with this
  exact ⟨rfl, this⟩
/-- The end of a way: there is nothing, or a leaf. -/
theorem Ends.stop {s : Ms} {r p t : Int} {d : Nat} (h : Ends s r p d t) : (eOf s p t (3 - d)).there = false ∨ (eOf s p t (3 - d)).leaf = true := by
  have h1 := h.no
  unfold goB at h1
  rw [h.use, decide_eq_true h.dec] at h1
  simp only [Bool.true_and, Bool.and_eq_false_iff, Bool.not_eq_false'] at h1
  exact h1
theorem wayA_ends {s : Ms} {r p : Int} : ∀ (L d : Nat) (t : Int), L + d = 3 → tabD s r p d = some t → ∀ (e : Nat) (u : Int), d ≤ e → Ends s r p e u →
    wayA s p L t (tabsD s r p d) = ⟨0, tabsD s r p (e + 1), ((3 - e : Nat) : Int), eOf s p u (3 - e)⟩ := by
  intro L
  induction L with
  | zero =>
    intro d t hL ht e u hde he
    have := he.le
    obtain rfl : e = d := by omega
    obtain rfl : t = u := by have := ht.symm.trans he.tab; injection this
    obtain rfl : e = 3 := by omega
    rw [wayA_end he.use he.dec he.stop, tabsD_succ ht]
    rfl
  | succ L ih =>
    intro d t hL ht e u hde he
    by_cases hd : d = e
    · subst hd
      obtain rfl : t = u := by have := ht.symm.trans he.tab; injection this
      have e3 : 3 - d = L + 1 := by omega
      have hu := he.use
      have hc := he.dec
      have hs := he.stop
      rw [e3] at hc hs ⊢
      rw [wayA_end hu hc hs, tabsD_succ ht]
      rfl
    · obtain ⟨v, hv⟩ := tabD_some_mono he.tab (show d + 1 ≤ e by omega)
      obtain ⟨t', h1, h2, h3⟩ := tabD_succ.1 hv
      obtain rfl : t' = t := by have := h1.symm.trans ht; injection this
      have e3 : 3 - d = L + 1 := by omega
      rw [e3] at h2 h3
      obtain ⟨g1, g2, g3, g4⟩ := goB_iff.1 h2
      have hne : ¬ ((decE (wordV s t' (index p (L + 1 : Nat))) (L + 1 : Nat)).there = false ∨ (decE (wordV s t' (index p (L + 1 : Nat))) (L + 1 : Nat)).leaf = true) := by
        unfold eOf at g3 g4
        rw [g3, g4]
        simp
      obtain ⟨K, hK, ew⟩ := wayA_on (acc := tabsD s r p d) g1 g2 hne
      obtain rfl : L = K := by omega
      rw [ew, ← tabsD_succ ht]
      have h3' : (decE (wordV s t' (index p (L + 1 : Nat))) (L + 1 : Nat)).frame = v := h3
      rw [h3']
      exact ih (d + 1) v (by omega) hv e u (by omega) he
theorem way_ends {s : Ms} {r p t : Int} {d : Nat} (h0 : 0 ≤ p) (h1 : p < 4096) (h : Ends s r p d t) : way s r p = ⟨0, tabsD s r p (d + 1), ((3 - d : Nat) : Int), eOf s p t (3 - d)⟩ := by
  unfold way
  rw [if_pos (by unfold hasB; rw [decide_eq_true h0, decide_eq_true h1]; rfl)]
  exact wayA_ends 3 0 r rfl rfl d t (Nat.zero_le _) h
theorem ends_wayA {s : Ms} {r p : Int} : ∀ (L d : Nat) (t : Int), L + d = 3 → tabD s r p d = some t → (wayA s p L t (tabsD s r p d)).code = 0 → ∃ e u, Ends s r p e u := by
  intro L
  induction L with
  | zero =>
    intro d t hL ht hc
    obtain rfl : d = 3 := by omega
    cases h : s.has t with
    | false => rw [wayA_free h] at hc; cases hc
    | true =>
      by_cases hd : decC (wordV s t (index p (0 : Nat))) (0 : Nat) = 0
      · have := dec0_leaf hd
        refine ⟨3, t, by omega, ht, h, hd, ?_⟩
        unfold goB eOf
        show (s.has t && (decide (decC (wordV s t (index p (0 : Nat))) (0 : Nat) = 0) && ((decE (wordV s t (index p (0 : Nat))) (0 : Nat)).there && !(decE (wordV s t (index p (0 : Nat))) (0 : Nat)).leaf))) = false
        rcases this with e | e
        · simp_all
        · simp_all
      · rw [wayA_bad h hd] at hc
        exact absurd hc hd
  | succ L ih =>
    intro d t hL ht hc
    have e3 : 3 - d = L + 1 := by omega
    cases h : s.has t with
    | false => rw [wayA_free h] at hc; cases hc
    | true =>
      by_cases hd : decC (wordV s t (index p (L + 1 : Nat))) (L + 1 : Nat) = 0
      · by_cases he : (decE (wordV s t (index p (L + 1 : Nat))) (L + 1 : Nat)).there = false ∨ (decE (wordV s t (index p (L + 1 : Nat))) (L + 1 : Nat)).leaf = true
        · refine ⟨d, t, by omega, ht, h, by rw [e3]; exact hd, ?_⟩
          rw [e3]
          unfold goB eOf
          rcases he with e | e
          · rw [e]; simp
          · rw [e]; simp
        · obtain ⟨K, hK, ew⟩ := wayA_on (acc := tabsD s r p d) h hd he
          obtain rfl : L = K := by omega
          rw [ew, ← tabsD_succ ht] at hc
          refine ih (d + 1) _ (by omega) ?_ hc
          refine tabD_succ.2 ⟨t, ht, ?_, by rw [e3]; rfl⟩
          rw [e3]
          rw [not_or] at he
          exact goB_iff.2 ⟨h, hd, by unfold eOf; simpa using he.1, by unfold eOf; simpa using he.2⟩
      · rw [wayA_bad h hd] at hc
        exact absurd hc hd
theorem ends_way {s : Ms} {r p : Int} (h0 : 0 ≤ p) (h1 : p < 4096) (hc : (way s r p).code = 0) : ∃ d t, Ends s r p d t := by
  unfold way at hc
  rw [if_pos (by unfold hasB; rw [decide_eq_true h0, decide_eq_true h1]; rfl)] at hc
  exact ends_wayA 3 0 r rfl rfl hc

/-! ### Prefixes -/
theorem pow8_pos (n : Nat) : 0 < pow8 n := pow8_pos' n
theorem div_up {p q : Int} {a b : Nat} (hab : a ≤ b) (h : p / pow8 a = q / pow8 a) : p / pow8 b = q / pow8 b := by
  induction hab with
  | refl => exact h
  | @step n _ ih =>
    have := pow8_pos n
    rw [pow8_succ, Int.mul_comm, ← Int.ediv_ediv_of_nonneg (by omega), ← Int.ediv_ediv_of_nonneg (by omega), ih]
/-- Places in a table: the same for pages of one prefix. -/
theorem index_div {p q : Int} (hp : 0 ≤ p ∧ p < 4096) (hq : 0 ≤ q ∧ q < 4096) {L : Nat} (h : p / pow8 L = q / pow8 L) : index p L = index q L := by
  unfold index
  by_cases hL : L < 4
  · rw [if_pos ⟨hp.1, hp.2, by omega, by omega⟩, if_pos ⟨hq.1, hq.2, by omega, by omega⟩, Int.toNat_natCast, h]
  · rw [if_neg (by omega), if_neg (by omega)]
theorem div_of_index {p q : Int} (hp : 0 ≤ p ∧ p < 4096) (hq : 0 ≤ q ∧ q < 4096) {L : Nat} (hL : L ≤ 3) (h : p / pow8 (L + 1) = q / pow8 (L + 1)) (hi : index p L = index q L) : p / pow8 L = q / pow8 L := by
  have h0 := pow8_pos L
  have e : ∀ x : Int, x / pow8 (L + 1) = x / pow8 L / 8 := fun x => by rw [pow8_succ, Int.mul_comm, ← Int.ediv_ediv_of_nonneg (by omega)]
  rw [e, e] at h
  unfold index at hi
  rw [if_pos ⟨hp.1, hp.2, by omega, by omega⟩, if_pos ⟨hq.1, hq.2, by omega, by omega⟩, Int.toNat_natCast] at hi
  omega
theorem index_range {p : Int} (hp : 0 ≤ p ∧ p < 4096) {L : Nat} (hL : L ≤ 3) : 0 ≤ index p L ∧ index p L < 8 := by
  unfold index
  rw [if_pos ⟨hp.1, hp.2, by omega, by omega⟩]
  omega
theorem div_top {p q : Int} (hp : 0 ≤ p ∧ p < 4096) (hq : 0 ≤ q ∧ q < 4096) : p / pow8 4 = q / pow8 4 := by
  have : pow8 4 = 4096 := rfl
  rw [this]
  omega
theorem index_val {p : Int} (hp : 0 ≤ p ∧ p < 4096) {L : Nat} (hL : L ≤ 3) : index p L = p / pow8 L % 8 := by
  unfold index
  rw [if_pos ⟨hp.1, hp.2, by omega, by omega⟩, Int.toNat_natCast]
/-- A page with a given place behind a prefix. -/
theorem page_at {p : Int} (hp : 0 ≤ p ∧ p < 4096) {L : Nat} (hL : L ≤ 3) (i : Nat) (hi : i < 8) : ∃ q, (0 ≤ q ∧ q < 4096) ∧ q / pow8 (L + 1) = p / pow8 (L + 1) ∧ index q L = i ∧ q % pow8 L = 0 := by
  have h : (0 ≤ (p / pow8 (L + 1) * 8 + i) * pow8 L ∧ (p / pow8 (L + 1) * 8 + i) * pow8 L < 4096) ∧ (p / pow8 (L + 1) * 8 + i) * pow8 L / pow8 (L + 1) = p / pow8 (L + 1) ∧ (p / pow8 (L + 1) * 8 + i) * pow8 L / pow8 L % 8 = i ∧ (p / pow8 (L + 1) * 8 + i) * pow8 L % pow8 L = 0 := by
    have hL' : L = 0 ∨ L = 1 ∨ L = 2 ∨ L = 3 := by omega
    rcases hL' with rfl | rfl | rfl | rfl <;> simp only [pow8] <;> omega
  exact ⟨(p / pow8 (L + 1) * 8 + i) * pow8 L, h.1, h.2.1, (index_val h.1 hL).trans h.2.2.1, h.2.2.2⟩
/-- The same prefix: the same table. -/
theorem tabD_prefix (s : Ms) (r : Int) {p q : Int} (hp : 0 ≤ p ∧ p < 4096) (hq : 0 ≤ q ∧ q < 4096) : ∀ (d : Nat), d ≤ 4 → p / pow8 (4 - d) = q / pow8 (4 - d) → tabD s r p d = tabD s r q d := by
  intro d
  induction d with
  | zero => intro _ _; rfl
  | succ d ih =>
    intro hd h
    have h3 : p / pow8 (3 - d) = q / pow8 (3 - d) := by rw [show 4 - (d + 1) = 3 - d by omega] at h; exact h
    have hi := index_div hp hq h3
    show (tabD s r p d).bind _ = (tabD s r q d).bind _
    rw [ih (by omega) (div_up (by omega) h)]
    congr 1
    funext u
    unfold goB eOf
    rw [hi]
end Go.Proofs.Ytndhgomikpokpaa

namespace Go.Proofs.Ytndhgomikpokpaa
open Go.RowKit

def InP (p : Int) : Prop := 0 ≤ p ∧ p < 4096
/-- A table of the root's. -/
def InT (s : Ms) (r t : Int) : Prop := ∃ p d, InP p ∧ d ≤ 3 ∧ tabD s r p d = some t
/-- The tables from a root on are a tree; what is in use is theirs, or goes; each but those of X has something in it. -/
structure Wf (s : Ms) (r : Int) (gone : List Int) (X : Int → Prop) : Prop where
  ends : ∀ p, InP p → ∃ d t, Ends s r p d t
  inj : ∀ p q d e t, InP p → InP q → d ≤ 3 → e ≤ 3 → tabD s r p d = some t → tabD s r q e = some t → d = e ∧ p / pow8 (4 - d) = q / pow8 (4 - d)
  full : ∀ p d t, InP p → d < 3 → tabD s r p (d + 1) = some t → X t ∨ ∃ i : Nat, i < 8 ∧ wordV s t i ≠ 0
  use : ∀ k : Nat, s.tk k = true ↔ InT s r k ∨ (k : Int) ∈ gone
  nd : gone.Nodup
  gz : ∀ g ∈ gone, 0 ≤ g ∧ ∀ i : Nat, i < 8 → wordV s g i = 0
  gt : ∀ g ∈ gone, ¬ InT s r g

section
variable {s : Ms} {r : Int} {gone : List Int} {X : Int → Prop}
theorem Wf.mono {Y : Int → Prop} (h : Wf s r gone X) (hxy : ∀ t, X t → Y t) : Wf s r gone Y :=
  ⟨h.ends, h.inj, fun p d t a b c => (h.full p d t a b c).imp (hxy t) id, h.use, h.nd, h.gz, h.gt⟩
/-- A table on the way: it is in use, and its word is one. -/
theorem Wf.at_ (h : Wf s r gone X) {p t : Int} {d : Nat} (hp : InP p) (hd : d ≤ 3) (ht : tabD s r p d = some t) :
    s.has t = true ∧ decC (wordV s t (index p (3 - d : Nat))) (3 - d : Nat) = 0 := by
  cases hg : goB s p t (3 - d) with
  | true => have := goB_iff.1 hg; exact ⟨this.1, this.2.1⟩
  | false =>
    obtain ⟨e, u, he⟩ := h.ends p hp
    have h1 := tabD_none ht hg
    have hle : e ≤ d := by
      rcases Nat.lt_or_ge d e with hlt | hge
      · have := tabD_none_mono h1 e hlt; rw [he.tab] at this; cases this
      · exact hge
    rcases Nat.lt_or_ge e d with hlt | hge
    · have := tabD_none_mono (tabD_none he.tab he.no) d hlt; rw [ht] at this; cases this
    · obtain rfl : e = d := by omega
      obtain rfl : t = u := by have := ht.symm.trans he.tab; injection this
      exact ⟨he.use, he.dec⟩
theorem Wf.nat (h : Wf s r gone X) {p t : Int} {d : Nat} (hp : InP p) (hd : d ≤ 3) (ht : tabD s r p d = some t) : 0 ≤ t ∧ t < s.n ∧ s.tk t.toNat = true := Ms.has_iff.1 (h.at_ hp hd ht).1
theorem InT.mk {p t : Int} {d : Nat} (hp : InP p) (hd : d ≤ 3) (ht : tabD s r p d = some t) : InT s r t := ⟨p, d, hp, hd, ht⟩
theorem Wf.dec (h : Wf s r gone X) {p t : Int} {d : Nat} (hp : InP p) (hd : d ≤ 3) (ht : tabD s r p d = some t) (i : Nat) (hi : i < 8) : decC (wordV s t i) (3 - d : Nat) = 0 := by
  obtain ⟨q, hq, hpre, hix, _⟩ := page_at hp (show 3 - d ≤ 3 by omega) i hi
  have e1 : tabD s r q d = some t := by
    rw [← ht]
    exact tabD_prefix s r hq hp d (by omega) (by rw [show 4 - d = 3 - d + 1 by omega]; exact hpre)
  have := (h.at_ hq hd e1).2
  rw [hix] at this
  exact this
/-- Where a way ends, so does that of each page of the same prefix. -/
theorem Ends.same {p q t : Int} {d : Nat} (hp : InP p) (hq : InP q) (h : Ends s r p d t) (hpre : q / pow8 (3 - d) = p / pow8 (3 - d)) : Ends s r q d t ∧ eOf s q t (3 - d) = eOf s p t (3 - d) := by
  have hi := index_div hq hp hpre
  have := h.le
  refine ⟨⟨h.le, ?_, h.use, by rw [hi]; exact h.dec, ?_⟩, by unfold eOf; rw [hi]⟩
  · rw [← h.tab]
    exact tabD_prefix s r hq hp d (by omega) (div_up (by omega) hpre)
  · have := h.no
    unfold goB eOf at this ⊢
    rw [hi]
    exact this

theorem wordV_setW {s : Ms} {t i u j : Int} {v : Int} (hu : 0 ≤ u) (ht : 0 ≤ t) (hi : 0 ≤ i) (hj : 0 ≤ j) : wordV (s.setW t.toNat i.toNat v) u j = if u = t ∧ j = i then v else wordV s u j := by
  show (if u.toNat = t.toNat ∧ j.toNat = i.toNat then v else s.wd u.toNat j.toNat) = _
  by_cases h : u = t ∧ j = i
  · rw [if_pos h, if_pos ⟨by rw [h.1], by rw [h.2]⟩]
  · rw [if_neg h, if_neg (by omega)]
    rfl
theorem has_setW (s : Ms) (t i : Nat) (v u : Int) : (s.setW t i v).has u = s.has u := rfl

/-! ### A word at the end of a way becomes another one that leads no further -/
section leaf
variable {p t v : Int} {d : Nat}
/-- s, where the word on the way to p in the table t is v. -/
abbrev putAt (s : Ms) (p t : Int) (d : Nat) (v : Int) : Ms := s.setW t.toNat (index p (3 - d : Nat)).toNat v
theorem slot (h : Wf s r gone X) (hp : InP p) (hd : d ≤ 3) (ht : tabD s r p d = some t) {q u : Int} {e : Nat} (hq : InP q) (he : e ≤ 3) (hu : tabD s r q e = some u) :
    (u = t ∧ index q (3 - e : Nat) = index p (3 - d : Nat)) ↔ (e = d ∧ q / pow8 (3 - d) = p / pow8 (3 - d)) := by
  constructor
  · rintro ⟨rfl, hi⟩
    obtain ⟨rfl, hpre⟩ := h.inj q p e d u hq hp he hd hu ht
    refine ⟨rfl, div_of_index hq hp (by omega) ?_ hi⟩
    rw [show 3 - e + 1 = 4 - e by omega]
    exact hpre
  · rintro ⟨rfl, hpre⟩
    have : tabD s r q e = tabD s r p e := tabD_prefix s r hq hp e (by omega) (div_up (by omega) hpre)
    rw [hu, ht] at this
    injection this with this
    exact ⟨this, index_div hq hp hpre⟩
theorem put_word (h : Wf s r gone X) (hp : InP p) (hd : d ≤ 3) (ht : tabD s r p d = some t) {q u : Int} {e : Nat} (hq : InP q) (he : e ≤ 3) (hu : tabD s r q e = some u) :
    wordV (putAt s p t d v) u (index q (3 - e : Nat)) = if e = d ∧ q / pow8 (3 - d) = p / pow8 (3 - d) then v else wordV s u (index q (3 - e : Nat)) := by
  have h1 := (h.nat hp hd ht).1
  have h2 := (h.nat hq he hu).1
  have i1 := index_range hp (show 3 - d ≤ 3 by omega)
  have i2 := index_range hq (show 3 - e ≤ 3 by omega)
  rw [wordV_setW h2 h1 i1.1 i2.1]
  have := slot h hp hd ht hq he hu
  by_cases hs : u = t ∧ index q (3 - e : Nat) = index p (3 - d : Nat)
  · rw [if_pos hs, if_pos (this.1 hs)]
  · rw [if_neg hs, if_neg (fun x => hs (this.2 x))]
def stopW (v : Int) (L : Nat) : Prop := decC v L = 0 ∧ ¬ ((decE v L).there = true ∧ (decE v L).leaf = false)
theorem put_tab (h : Wf s r gone X) (hp : InP p) (hd : d ≤ 3) (ht : tabD s r p d = some t) (hg : goB s p t (3 - d) = false) (hv : stopW v (3 - d)) {q : Int} (hq : InP q) :
    ∀ e, e ≤ 4 → tabD (putAt s p t d v) r q e = tabD s r q e := by
  intro e
  induction e with
  | zero => intro _; rfl
  | succ e ih =>
    intro he
    show (tabD (putAt s p t d v) r q e).bind _ = (tabD s r q e).bind _
    rw [ih (by omega)]
    cases hu : tabD s r q e with
    | none => rfl
    | some u =>
      have hw := put_word (v := v) h hp hd ht hq (show e ≤ 3 by omega) hu
      simp only [Option.bind_some]
      by_cases hs : e = d ∧ q / pow8 (3 - d) = p / pow8 (3 - d)
      · rw [if_pos hs] at hw
        obtain ⟨rfl, hpre⟩ := hs
        have g1 : goB (putAt s p t e v) q u (3 - e) = false := by
          unfold goB eOf
          rw [hw]
          have := hv.2
          cases h1 : (decE v (3 - e : Nat)).there <;> cases h2 : (decE v (3 - e : Nat)).leaf <;> simp_all
        have g2 : goB s q u (3 - e) = false := by
          have hix := index_div hq hp hpre
          obtain ⟨rfl, _⟩ := (slot h hp hd ht hq hd hu).2 ⟨rfl, hpre⟩
          unfold goB eOf at hg ⊢
          rw [hix]
          exact hg
        rw [g1, g2]
        simp
      · rw [if_neg hs] at hw
        unfold goB eOf
        rw [hw, has_setW]
theorem put_inT (h : Wf s r gone X) (hp : InP p) (hd : d ≤ 3) (ht : tabD s r p d = some t) (hg : goB s p t (3 - d) = false) (hv : stopW v (3 - d)) (u : Int) : InT (putAt s p t d v) r u ↔ InT s r u := by
  constructor
  · rintro ⟨q, e, hq, he, hu⟩
    rw [put_tab h hp hd ht hg hv hq e (by omega)] at hu
    exact ⟨q, e, hq, he, hu⟩
  · rintro ⟨q, e, hq, he, hu⟩
    rw [← put_tab h hp hd ht hg hv hq e (by omega)] at hu
    exact ⟨q, e, hq, he, hu⟩
theorem put_ends (h : Wf s r gone X) (hp : InP p) (hd : d ≤ 3) (ht : tabD s r p d = some t) (hg : goB s p t (3 - d) = false) (hv : stopW v (3 - d)) {q u : Int} {e : Nat} (hq : InP q) (he : Ends s r q e u) :
    Ends (putAt s p t d v) r q e u ∧ eOf (putAt s p t d v) q u (3 - e) = if e = d ∧ q / pow8 (3 - d) = p / pow8 (3 - d) then decE v (3 - d : Nat) else eOf s q u (3 - e) := by
  have hle := he.le
  have hw := put_word (v := v) h hp hd ht hq he.le he.tab
  have ht' := (put_tab h hp hd ht hg hv hq e (by omega)).trans he.tab
  by_cases hs : e = d ∧ q / pow8 (3 - d) = p / pow8 (3 - d)
  · rw [if_pos hs] at hw ⊢
    obtain ⟨rfl, hpre⟩ := hs
    refine ⟨⟨hle, ht', he.use, by rw [hw]; exact hv.1, ?_⟩, by unfold eOf; rw [hw]⟩
    unfold goB eOf
    rw [hw]
    have := hv.2
    cases h1 : (decE v (3 - e : Nat)).there <;> cases h2 : (decE v (3 - e : Nat)).leaf <;> simp_all
  · rw [if_neg hs] at hw ⊢
    refine ⟨⟨hle, ht', he.use, by rw [hw]; exact he.dec, ?_⟩, by unfold eOf; rw [hw]⟩
    have := he.no
    unfold goB eOf at this ⊢
    rw [hw, has_setW]
    exact this
/-- The tree stays one. If the word is none, there may be nothing in the table now; else there is. -/
theorem Wf.put (h : Wf s r gone X) (hp : InP p) (hd : d ≤ 3) (ht : tabD s r p d = some t) (hg : goB s p t (3 - d) = false) (hv : stopW v (3 - d)) :
    Wf (putAt s p t d v) r gone (fun u => (X u ∧ (v = 0 ∨ u ≠ t)) ∨ (v = 0 ∧ u = t)) := by
  have hT := put_inT h hp hd ht hg hv
  have hn := h.nat hp hd ht
  have i1 := index_range hp (show 3 - d ≤ 3 by omega)
  refine ⟨fun q hq => ?_, fun q q' e e' u a b c c' k k' => ?_, fun q e u hq he hu => ?_, fun k => ?_, h.nd, fun g hg' => ?_, fun g hg' => ?_⟩
  · obtain ⟨e, u, he⟩ := h.ends q hq
    exact ⟨e, u, (put_ends h hp hd ht hg hv hq he).1⟩
  · rw [put_tab h hp hd ht hg hv a e (by omega)] at k
    rw [put_tab h hp hd ht hg hv b e' (by omega)] at k'
    exact h.inj q q' e e' u a b c c' k k'
  · rw [put_tab h hp hd ht hg hv hq (e + 1) (by omega)] at hu
    have hun := h.nat hq (by omega) hu
    by_cases hut : u = t
    · subst hut
      by_cases hv0 : v = 0
      · exact .inl (.inr ⟨hv0, rfl⟩)
      · refine .inr ⟨(index p (3 - d : Nat)).toNat, by omega, ?_⟩
        rw [wordV_setW hn.1 hn.1 i1.1 (by omega), if_pos ⟨rfl, by omega⟩]
        exact hv0
    · rcases h.full q e u hq he hu with hx | ⟨i, hi, hw⟩
      · exact .inl (.inl ⟨hx, .inr hut⟩)
      · refine .inr ⟨i, hi, ?_⟩
        rw [wordV_setW hun.1 hn.1 i1.1 (by omega), if_neg (fun x => hut x.1)]
        exact hw
  · rw [hT]
    exact h.use k
  · obtain ⟨g0, gz⟩ := h.gz g hg'
    refine ⟨g0, fun i hi => ?_⟩
    rw [wordV_setW g0 hn.1 i1.1 (by omega), if_neg]
    · exact gz i hi
    · rintro ⟨rfl, _⟩
      exact h.gt g hg' ⟨p, d, hp, hd, ht⟩
  · rw [hT]
    exact h.gt g hg'
end leaf
end
end Go.Proofs.Ytndhgomikpokpaa

namespace Go.Proofs.Ytndhgomikpokpaa
open Go.RowKit

theorem dec_zero {L : Nat} (hL : L ≤ 3) : decC 0 L = 0 ∧ decE 0 L = En.zero := by
  have h1 : decC 0 L = 0 := by
    unfold decC
    rw [if_neg (by omega), if_neg (by unfold bitsOk; simp), if_pos rfl]
  refine ⟨h1, ?_⟩
  unfold decE
  rw [if_neg (by simp)]
/-- The entry that leads to a table. -/
def tabE (k : Int) : En := ⟨true, false, 7, false, false, k⟩
def tabW (k : Int) (L : Nat) : Int := encW (tabE k) L
theorem tabE_ok {k : Int} (h0 : 0 ≤ k) (h1 : k < 1048576) {L : Nat} (hL : 0 < L) (hL3 : L ≤ 3) : entFault (tabE k) L = 0 := by
  unfold entFault tabE
  simp
  omega
theorem tabW_dec {k : Int} (h0 : 0 ≤ k) (h1 : k < 1048576) {L : Nat} (hL : 0 < L) (hL3 : L ≤ 3) : decC (tabW k L) L = 0 ∧ decE (tabW k L) L = tabE k := by
  have := dec_enc (tabE_ok h0 h1 hL hL3)
  exact ⟨this.1, this.2.1⟩
theorem eOf_zero {s : Ms} {p t : Int} {L : Nat} (hL : L ≤ 3) (h : wordV s t (index p L) = 0) : eOf s p t L = En.zero := by
  unfold eOf
  rw [h]
  exact (dec_zero hL).2
theorem goB_zero {s : Ms} {p t : Int} {L : Nat} (hL : L ≤ 3) (h : wordV s t (index p L) = 0) : goB s p t L = false := by
  unfold goB
  rw [eOf_zero hL h]
  simp [En.zero]

section
variable {s : Ms} {r : Int} {gone : List Int} {X : Int → Prop} {p t : Int} {d : Nat}
/-- s, where the frame k is taken and the word on the way to p in the table t leads to it. -/
def graft (s : Ms) (p t : Int) (d k : Nat) : Ms := putAt (s.take k) p t d (tabW k (3 - d))
section graft
variable {k : Nat}
theorem has_take {u : Int} (s : Ms) (k : Nat) (h : u ≠ k) : (s.take k).has u = s.has u := by
  unfold Ms.has
  by_cases h0 : 0 ≤ u
  · have : u.toNat ≠ k := by omega
    show (_ && (_ && fput s.tk k true u.toNat)) = _
    rw [fput_ne _ _ this]
    rfl
  · simp [h0]
theorem has_take_self {s : Ms} {k : Nat} (h : k < s.n) : (s.take k).has k = true := by
  refine Ms.has_iff.2 ⟨by omega, ?_, ?_⟩
  · show (k : Int) < s.n; omega
  · show fput s.tk k true (k : Int).toNat = true
    rw [Int.toNat_natCast, fput_self]
theorem wordV_take {s : Ms} {k : Nat} {u : Int} (hu : 0 ≤ u) (j : Int) : wordV (s.take k) u j = if u = k then 0 else wordV s u j := by
  show (if u.toNat = k then 0 else s.wd u.toNat j.toNat) = _
  by_cases h : u = k
  · rw [if_pos h, if_pos (by omega)]
  · rw [if_neg h, if_neg (by omega)]
    rfl
/-- What a fresh frame is not. -/
theorem Wf.fresh (h : Wf s r gone X) (hk : s.tk k = false) : ¬ InT s r k ∧ (k : Int) ∉ gone := by
  constructor
  · intro hi
    have := (h.use k).2 (.inl hi)
    rw [hk] at this; cases this
  · intro hi
    have := (h.use k).2 (.inr hi)
    rw [hk] at this; cases this
theorem graft_word (h : Wf s r gone X) (he : Ends s r p d t) (hp : InP p) (hk : s.tk k = false) {q u : Int} {e : Nat} (hq : InP q) (hle : e ≤ 3) (hu : tabD s r q e = some u) :
    (graft s p t d k).has u = s.has u ∧ wordV (graft s p t d k) u (index q (3 - e : Nat)) = if e = d ∧ q / pow8 (3 - d) = p / pow8 (3 - d) then tabW k (3 - d) else wordV s u (index q (3 - e : Nat)) := by
  have hn := h.nat hp he.le he.tab
  have hun := h.nat hq hle hu
  have i1 := index_range hp (show 3 - d ≤ 3 by omega)
  have i2 := index_range hq (show 3 - e ≤ 3 by omega)
  have huk : u ≠ k := by
    intro e
    have := hun.2.2
    rw [e, Int.toNat_natCast, hk] at this
    cases this
  refine ⟨by unfold graft putAt; rw [has_setW, has_take s k huk], ?_⟩
  unfold graft putAt
  rw [wordV_setW hun.1 hn.1 i1.1 i2.1, wordV_take hun.1, if_neg huk]
  have := slot h hp he.le he.tab hq hle hu
  by_cases hs : u = t ∧ index q (3 - e : Nat) = index p (3 - d : Nat)
  · rw [if_pos hs, if_pos (this.1 hs)]
  · rw [if_neg hs, if_neg (fun x => hs (this.2 x))]
theorem graft_new (h : Wf s r gone X) (he : Ends s r p d t) (hp : InP p) (hk : s.tk k = false) (hn : k < s.n) (j : Int) (hj : 0 ≤ j) : (graft s p t d k).has k = true ∧ wordV (graft s p t d k) k j = 0 := by
  have htn := h.nat hp he.le he.tab
  have i1 := index_range hp (show 3 - d ≤ 3 by omega)
  have hkt : (k : Int) ≠ t := by
    intro e
    have := htn.2.2
    rw [← e, Int.toNat_natCast, hk] at this
    cases this
  unfold graft putAt
  rw [has_setW]
  refine ⟨has_take_self hn, ?_⟩
  rw [wordV_setW (by omega) htn.1 i1.1 hj, if_neg (fun x => hkt x.1), wordV_take (by omega), if_pos rfl]
theorem graft_tab (h : Wf s r gone X) (he : Ends s r p d t) (hp : InP p) (hd : d ≤ 2) (hk : s.tk k = false) (hn : k < s.n) (hs : s.n ≤ 128) {q : Int} (hq : InP q) :
    ∀ e, e ≤ 4 → tabD (graft s p t d k) r q e = if e = d + 1 ∧ q / pow8 (3 - d) = p / pow8 (3 - d) then some (k : Int) else tabD s r q e := by
  intro e
  induction e with
  | zero => intro _; rw [if_neg (by omega)]; rfl
  | succ e ih =>
    intro hle
    have ih := ih (by omega)
    by_cases h1 : e = d + 1 ∧ q / pow8 (3 - d) = p / pow8 (3 - d)
    · rw [if_pos h1] at ih
      have g0 : goB (graft s p t d k) q k (3 - e) = false := goB_zero (by omega) (graft_new h he hp hk hn _ (index_range hq (by omega)).1).2
      rw [tabD_none ih g0, if_neg (by omega)]
      obtain ⟨rfl, hpre⟩ := h1
      have hq' := (he.same hp hq hpre).1
      exact (tabD_none_mono (tabD_none hq'.tab hq'.no) _ (by omega)).symm
    · rw [if_neg h1] at ih
      cases hu : tabD s r q e with
      | none =>
        rw [hu] at ih
        rw [tabD_none_mono ih (e + 1) (by omega), tabD_none_mono hu (e + 1) (by omega)]
        rw [if_neg]
        rintro ⟨h2, hpre⟩
        obtain rfl : e = d := by omega
        rw [(he.same hp hq hpre).1.tab] at hu
        cases hu
      | some u =>
        rw [hu] at ih
        obtain ⟨w1, w2⟩ := graft_word h he hp hk hq (show e ≤ 3 by omega) hu
        show (tabD (graft s p t d k) r q e).bind _ = _
        rw [ih, Option.bind_some]
        by_cases h2 : e = d ∧ q / pow8 (3 - d) = p / pow8 (3 - d)
        · rw [if_pos h2] at w2
          obtain ⟨rfl, hpre⟩ := h2
          obtain ⟨t1, t2⟩ := tabW_dec (k := (k : Int)) (by omega) (by omega) (show 0 < 3 - e by omega) (by omega)
          have hhas := (h.at_ hq (by omega) hu).1
          have g1 : goB (graft s p t e k) q u (3 - e) = true := by
            refine goB_iff.2 ⟨w1.trans hhas, by rw [w2]; exact t1, ?_, ?_⟩
            · unfold eOf; rw [w2, t2]; rfl
            · unfold eOf; rw [w2, t2]; rfl
          rw [if_pos g1, if_pos ⟨rfl, hpre⟩]
          unfold eOf
          rw [w2, t2]
          rfl
        · rw [if_neg h2] at w2
          have hn2 : ¬ (e + 1 = d + 1 ∧ q / pow8 (3 - d) = p / pow8 (3 - d)) := fun z => h2 ⟨by omega, z.2⟩
          rw [if_neg hn2]
          show _ = (tabD s r q e).bind _
          rw [hu, Option.bind_some]
          unfold goB eOf
          rw [w1, w2]
theorem graft_inT (h : Wf s r gone X) (he : Ends s r p d t) (hp : InP p) (hd : d ≤ 2) (hk : s.tk k = false) (hn : k < s.n) (hs : s.n ≤ 128) (u : Int) : InT (graft s p t d k) r u ↔ InT s r u ∨ u = k := by
  constructor
  · rintro ⟨q, e, hq, hle, hu⟩
    rw [graft_tab h he hp hd hk hn hs hq e (by omega)] at hu
    split at hu
    · injection hu with hu; exact .inr hu.symm
    · exact .inl ⟨q, e, hq, hle, hu⟩
  · rintro (⟨q, e, hq, hle, hu⟩ | rfl)
    · refine ⟨q, e, hq, hle, ?_⟩
      rw [graft_tab h he hp hd hk hn hs hq e (by omega), if_neg]
      · exact hu
      · rintro ⟨rfl, hpre⟩
        have hq' := (he.same hp hq hpre).1
        rw [tabD_none hq'.tab hq'.no] at hu
        cases hu
    · refine ⟨p, d + 1, hp, by omega, ?_⟩
      rw [graft_tab h he hp hd hk hn hs hp (d + 1) (by omega), if_pos ⟨rfl, rfl⟩]
/-- Where ways end then. -/
theorem graft_ends (h : Wf s r gone X) (he : Ends s r p d t) (hp : InP p) (hd : d ≤ 2) (hk : s.tk k = false) (hn : k < s.n) (hs : s.n ≤ 128) {q u : Int} {e : Nat} (hq : InP q) (hu : Ends s r q e u) :
    if q / pow8 (3 - d) = p / pow8 (3 - d) then Ends (graft s p t d k) r q (d + 1) k ∧ eOf (graft s p t d k) q k (2 - d) = En.zero
    else Ends (graft s p t d k) r q e u ∧ eOf (graft s p t d k) q u (3 - e) = eOf s q u (3 - e) := by
  by_cases hpre : q / pow8 (3 - d) = p / pow8 (3 - d)
  · rw [if_pos hpre]
    have e3 : 3 - (d + 1) = 2 - d := by omega
    have i2 := index_range hq (show 2 - d ≤ 3 by omega)
    obtain ⟨n1, n2⟩ := graft_new h he hp hk hn _ i2.1
    refine ⟨⟨by omega, ?_, n1, ?_, ?_⟩, eOf_zero (by omega) n2⟩
    · rw [graft_tab h he hp hd hk hn hs hq (d + 1) (by omega), if_pos ⟨rfl, hpre⟩]
    · rw [e3, n2]; exact (dec_zero (by omega)).1
    · rw [e3]; exact goB_zero (by omega) n2
  · rw [if_neg hpre]
    have hle := hu.le
    obtain ⟨w1, w2⟩ := graft_word h he hp hk hq hle hu.tab
    rw [if_neg (fun x => hpre x.2)] at w2
    refine ⟨⟨hle, ?_, w1.trans hu.use, by rw [w2]; exact hu.dec, ?_⟩, by unfold eOf; rw [w2]⟩
    · rw [graft_tab h he hp hd hk hn hs hq e (by omega), if_neg (fun x => hpre x.2)]
      exact hu.tab
    · have := hu.no
      unfold goB eOf at this ⊢
      rw [w1, w2]
      exact this
theorem Wf.graft (h : Wf s r gone X) (he : Ends s r p d t) (hp : InP p) (hd : d ≤ 2) (hk : s.tk k = false) (hn : k < s.n) (hs : s.n ≤ 128) : Wf (graft s p t d k) r gone (fun u => (X u ∧ u ≠ t) ∨ u = k) := by
  have hT := graft_inT h he hp hd hk hn hs
  have htn := h.nat hp he.le he.tab
  have i1 := index_range hp (show 3 - d ≤ 3 by omega)
  obtain ⟨f1, f2⟩ := h.fresh hk
  refine ⟨fun q hq => ?_, fun q q' e e' u a b c c' x x' => ?_, fun q e u hq hle hu => ?_, fun j => ?_, h.nd, fun g hg' => ?_, fun g hg' => ?_⟩
  · obtain ⟨e, u, hu⟩ := h.ends q hq
    have := graft_ends h he hp hd hk hn hs hq hu
    split at this
    · exact ⟨_, _, this.1⟩
    · exact ⟨_, _, this.1⟩
  · rw [graft_tab h he hp hd hk hn hs a e (by omega)] at x
    rw [graft_tab h he hp hd hk hn hs b e' (by omega)] at x'
    split at x <;> split at x'
    · rename_i y y'
      obtain ⟨rfl, y⟩ := y
      obtain ⟨rfl, y'⟩ := y'
      exact ⟨rfl, by rw [show 4 - (d + 1) = 3 - d by omega]; exact y.trans y'.symm⟩
    · injection x with x; subst x
      exact absurd ⟨q', e', b, c', x'⟩ f1
    · injection x' with x'; subst x'
      exact absurd ⟨q, e, a, c, x⟩ f1
    · exact h.inj q q' e e' u a b c c' x x'
  · by_cases huk : u = k
    · exact .inl (.inr huk)
    · rw [graft_tab h he hp hd hk hn hs hq (e + 1) (by omega)] at hu
      split at hu
      · injection hu with hu; exact absurd hu.symm huk
      have hun := h.nat hq (by omega) hu
      by_cases hut : u = t
      · subst hut
        refine .inr ⟨(index p (3 - d : Nat)).toNat, by omega, ?_⟩
        unfold Go.Proofs.Ytndhgomikpokpaa.graft putAt
        rw [wordV_setW hun.1 hun.1 i1.1 (by omega), if_pos ⟨rfl, by omega⟩]
        intro h0
        obtain ⟨_, t2⟩ := tabW_dec (k := (k : Int)) (by omega) (by omega) (show 0 < 3 - d by omega) (by omega)
        rw [h0, (dec_zero (by omega)).2] at t2
        cases t2
      · rcases h.full q e u hq hle hu with hx | ⟨i, hi, hw⟩
        · exact .inl (.inl ⟨hx, hut⟩)
        · refine .inr ⟨i, hi, ?_⟩
          unfold Go.Proofs.Ytndhgomikpokpaa.graft putAt
          rw [wordV_setW hun.1 htn.1 i1.1 (by omega), if_neg (fun x => hut x.1), wordV_take hun.1, if_neg huk]
          exact hw
  · rw [hT]
    show fput s.tk k true j = true ↔ _
    by_cases hj : j = k
    · subst hj
      simp [fput_self]
    · rw [fput_ne _ _ hj, h.use j]
      constructor
      · rintro (a | a)
        · exact .inl (.inl a)
        · exact .inr a
      · rintro ((a | a) | a)
        · exact .inl a
        · omega
        · exact .inr a
  · obtain ⟨g0, gz⟩ := h.gz g hg'
    refine ⟨g0, fun i hi => ?_⟩
    unfold Go.Proofs.Ytndhgomikpokpaa.graft putAt
    have hgk : g ≠ k := fun e => f2 (e ▸ hg')
    rw [wordV_setW g0 htn.1 i1.1 (by omega), if_neg, wordV_take g0, if_neg hgk]
    · exact gz i hi
    · rintro ⟨rfl, _⟩
      exact h.gt g hg' ⟨p, d, hp, he.le, he.tab⟩
  · rw [hT]
    rintro (a | a)
    · exact h.gt g hg' a
    · exact f2 (a ▸ hg')
end graft

section prune
variable {u : Int}
/-- s, where the word on the way to p in the table u is none. -/
abbrev cutAt (s : Ms) (p u : Int) (d : Nat) : Ms := putAt s p u d 0
theorem cut_tab (h : Wf s r gone X) (hp : InP p) (hd : d ≤ 2) (hu : tabD s r p d = some u) (ht : tabD s r p (d + 1) = some t) (hz : ∀ i : Nat, i < 8 → wordV s t i = 0) {q : Int} (hq : InP q) :
    ∀ e, e ≤ 4 → tabD (cutAt s p u d) r q e = if e = d + 1 ∧ q / pow8 (3 - d) = p / pow8 (3 - d) then none else tabD s r q e := by
  intro e
  induction e with
  | zero => intro _; rw [if_neg (by omega)]; rfl
  | succ e ih =>
    intro hle
    have ih := ih (by omega)
    by_cases h1 : e = d + 1 ∧ q / pow8 (3 - d) = p / pow8 (3 - d)
    · rw [if_pos h1] at ih
      rw [tabD_none_mono ih (e + 1) (by omega), if_neg (by omega)]
      obtain ⟨rfl, hpre⟩ := h1
      have hq' : tabD s r q (d + 1) = some t := by
        rw [← ht]
        exact tabD_prefix s r hq hp (d + 1) (by omega) (by rw [show 4 - (d + 1) = 3 - d by omega]; exact hpre)
      have i2 := index_range hq (show 3 - (d + 1) ≤ 3 by omega)
      refine (tabD_none hq' (goB_zero (by omega) ?_)).symm
      have := hz (index q (3 - (d + 1) : Nat)).toNat (by omega)
      rwa [Int.toNat_of_nonneg i2.1] at this
    · rw [if_neg h1] at ih
      cases hx : tabD s r q e with
      | none =>
        rw [hx] at ih
        rw [tabD_none_mono ih (e + 1) (by omega), tabD_none_mono hx (e + 1) (by omega)]
        simp
      | some x =>
        rw [hx] at ih
        have w2 := put_word (v := 0) h hp (show d ≤ 3 by omega) hu hq (show e ≤ 3 by omega) hx
        show (tabD (cutAt s p u d) r q e).bind _ = _
        rw [ih, Option.bind_some]
        by_cases h2 : e = d ∧ q / pow8 (3 - d) = p / pow8 (3 - d)
        · rw [if_pos h2] at w2
          obtain ⟨rfl, hpre⟩ := h2
          have hp2 : e + 1 = e + 1 ∧ q / pow8 (3 - e) = p / pow8 (3 - e) := ⟨rfl, hpre⟩
          rw [goB_zero (by omega) w2, if_pos hp2]
          simp
        · rw [if_neg h2] at w2
          have hn2 : ¬ (e + 1 = d + 1 ∧ q / pow8 (3 - d) = p / pow8 (3 - d)) := fun z => h2 ⟨by omega, z.2⟩
          rw [if_neg hn2]
          show _ = (tabD s r q e).bind _
          rw [hx, Option.bind_some]
          unfold goB eOf
          rw [w2, has_setW]
theorem cut_inT (h : Wf s r gone X) (hp : InP p) (hd : d ≤ 2) (hu : tabD s r p d = some u) (ht : tabD s r p (d + 1) = some t) (hz : ∀ i : Nat, i < 8 → wordV s t i = 0) (x : Int) : InT (cutAt s p u d) r x ↔ InT s r x ∧ x ≠ t := by
  constructor
  · rintro ⟨q, e, hq, hle, hx⟩
    rw [cut_tab h hp hd hu ht hz hq e (by omega)] at hx
    split at hx
    · cases hx
    · rename_i hne
      refine ⟨⟨q, e, hq, hle, hx⟩, fun hxt => ?_⟩
      subst hxt
      obtain ⟨rfl, hpre⟩ := h.inj q p e (d + 1) x hq hp hle (by omega) hx ht
      rw [show 4 - (d + 1) = 3 - d by omega] at hpre
      exact hne ⟨rfl, hpre⟩
  · rintro ⟨⟨q, e, hq, hle, hx⟩, hne⟩
    refine ⟨q, e, hq, hle, ?_⟩
    rw [cut_tab h hp hd hu ht hz hq e (by omega), if_neg]
    · exact hx
    · rintro ⟨rfl, hpre⟩
      have : tabD s r q (d + 1) = tabD s r p (d + 1) := tabD_prefix s r hq hp (d + 1) (by omega) (by rw [show 4 - (d + 1) = 3 - d by omega]; exact hpre)
      rw [hx, ht] at this
      injection this with this
      exact hne this
theorem cut_ends (h : Wf s r gone X) (hp : InP p) (hd : d ≤ 2) (hu : tabD s r p d = some u) (ht : tabD s r p (d + 1) = some t) (hz : ∀ i : Nat, i < 8 → wordV s t i = 0) {q x : Int} {e : Nat} (hq : InP q) (hx : Ends s r q e x) :
    if q / pow8 (3 - d) = p / pow8 (3 - d) then Ends (cutAt s p u d) r q d u ∧ eOf (cutAt s p u d) q u (3 - d) = En.zero
    else Ends (cutAt s p u d) r q e x ∧ eOf (cutAt s p u d) q x (3 - e) = eOf s q x (3 - e) := by
  by_cases hpre : q / pow8 (3 - d) = p / pow8 (3 - d)
  · rw [if_pos hpre]
    have hqu : tabD s r q d = some u := by
      rw [← hu]
      exact tabD_prefix s r hq hp d (by omega) (div_up (by omega) hpre)
    have w2 := put_word (v := 0) h hp (show d ≤ 3 by omega) hu hq (show d ≤ 3 by omega) hqu
    rw [if_pos ⟨rfl, hpre⟩] at w2
    refine ⟨⟨by omega, ?_, (h.at_ hq (by omega) hqu).1, by rw [w2]; exact (dec_zero (by omega)).1, goB_zero (by omega) w2⟩, eOf_zero (by omega) w2⟩
    rw [cut_tab h hp hd hu ht hz hq d (by omega), if_neg (by omega)]
    exact hqu
  · rw [if_neg hpre]
    have hle := hx.le
    have w2 := put_word (v := 0) h hp (show d ≤ 3 by omega) hu hq hle hx.tab
    rw [if_neg (fun y => hpre y.2)] at w2
    refine ⟨⟨hle, ?_, hx.use, by rw [w2]; exact hx.dec, ?_⟩, by unfold eOf; rw [w2]⟩
    · rw [cut_tab h hp hd hu ht hz hq e (by omega), if_neg (fun y => hpre y.2)]
      exact hx.tab
    · have := hx.no
      unfold goB eOf at this ⊢
      rw [w2, has_setW]
      exact this
theorem Wf.cut (h : Wf s r gone X) (hp : InP p) (hd : d ≤ 2) (hu : tabD s r p d = some u) (ht : tabD s r p (d + 1) = some t) (hz : ∀ i : Nat, i < 8 → wordV s t i = 0) : Wf (cutAt s p u d) r (t :: gone) (fun x => (X x ∧ x ≠ t) ∨ x = u) := by
  have hT := cut_inT h hp hd hu ht hz
  have hun := h.nat hp (show d ≤ 3 by omega) hu
  have htn := h.nat hp (show d + 1 ≤ 3 by omega) ht
  have i1 := index_range hp (show 3 - d ≤ 3 by omega)
  have hut : t ≠ u := by
    rintro rfl
    have := (h.inj p p d (d + 1) t hp hp (by omega) (by omega) hu ht).1
    omega
  have htT : InT s r t := ⟨p, d + 1, hp, by omega, ht⟩
  refine ⟨fun q hq => ?_, fun q q' e e' x a b c c' y y' => ?_, fun q e x hq hle hx => ?_, fun j => ?_, ?_, fun g hg => ?_, fun g hg => ?_⟩
  · obtain ⟨e, x, hx⟩ := h.ends q hq
    have := cut_ends h hp hd hu ht hz hq hx
    split at this
    · exact ⟨_, _, this.1⟩
    · exact ⟨_, _, this.1⟩
  · rw [cut_tab h hp hd hu ht hz a e (by omega)] at y
    rw [cut_tab h hp hd hu ht hz b e' (by omega)] at y'
    split at y
    · cases y
    split at y'
    · cases y'
    exact h.inj q q' e e' x a b c c' y y'
  · rw [cut_tab h hp hd hu ht hz hq (e + 1) (by omega)] at hx
    split at hx
    · cases hx
    rename_i hne
    have hxn := h.nat hq (by omega) hx
    by_cases hxu : x = u
    · exact .inl (.inr hxu)
    · rcases h.full q e x hq hle hx with hX | ⟨i, hi, hw⟩
      · refine .inl (.inl ⟨hX, fun hxt => ?_⟩)
        subst hxt
        obtain ⟨h1, hpre⟩ := h.inj q p (e + 1) (d + 1) x hq hp (by omega) (by omega) hx ht
        obtain rfl : e = d := by omega
        rw [show 4 - (e + 1) = 3 - e by omega] at hpre
        exact hne ⟨rfl, hpre⟩
      · refine .inr ⟨i, hi, ?_⟩
        rw [wordV_setW hxn.1 hun.1 i1.1 (by omega), if_neg (fun y => hxu y.1)]
        exact hw
  · rw [hT, List.mem_cons]
    show s.tk j = true ↔ _
    rw [h.use j]
    by_cases hj : (j : Int) = t
    · rw [hj]
      constructor
      · intro _; exact .inr (.inl rfl)
      · intro _; exact .inl htT
    · constructor
      · rintro (a | a)
        · exact .inl ⟨a, hj⟩
        · exact .inr (.inr a)
      · rintro (a | a | a)
        · exact .inl a.1
        · exact absurd a hj
        · exact .inr a
  · rw [List.nodup_cons]
    exact ⟨fun hm => h.gt t hm htT, h.nd⟩
  · have hgu : g ≠ u := by
      rcases List.mem_cons.1 hg with rfl | hg
      · exact hut
      · rintro rfl
        exact h.gt g hg ⟨p, d, hp, by omega, hu⟩
    have g0 : 0 ≤ g := by
      rcases List.mem_cons.1 hg with rfl | hg
      · exact htn.1
      · exact (h.gz g hg).1
    refine ⟨g0, fun i hi => ?_⟩
    rw [wordV_setW g0 hun.1 i1.1 (by omega), if_neg (fun y => hgu y.1)]
    rcases List.mem_cons.1 hg with rfl | hg
    · exact hz i hi
    · exact (h.gz g hg).2 i hi
  · rw [hT]
    rintro ⟨a, b⟩
    rcases List.mem_cons.1 hg with rfl | hg
    · exact b rfl
    · exact h.gt g hg a
end prune
end
end Go.Proofs.Ytndhgomikpokpaa

namespace Go.Proofs.Ytndhgomikpokpaa
open Go.RowKit

/-- The mapping of a page. -/
def mapAt (s : Ms) (r p : Int) : Option Mp := if (way s r p).e.leaf = true then some (leafMap (way s r p).e (way s r p).lev p) else none
theorem mapAt_ends {s : Ms} {r p t : Int} {d : Nat} (hp : InP p) (h : Ends s r p d t) :
    mapAt s r p = if (eOf s p t (3 - d)).leaf = true then some (leafMap (eOf s p t (3 - d)) ((3 - d : Nat) : Int) p) else none := by
  unfold mapAt
  rw [way_ends hp.1 hp.2 h]
theorem Ends.not {s : Ms} {r p t : Int} {d : Nat} (h : Ends s r p d t) (ht : (eOf s p t (3 - d)).there = false) : eOf s p t (3 - d) = En.zero ∧ wordV s t (index p (3 - d : Nat)) = 0 := by
  obtain ⟨h1, h2⟩ := enc_dec h.dec
  have h3 : eOf s p t (3 - d) = En.zero := entFault_not h1 ht
  refine ⟨h3, ?_⟩
  unfold eOf at h3
  rw [h3] at h2
  rw [← h2]
  unfold encW
  rw [if_neg (by simp [En.zero])]
theorem Ends.leafOf {s : Ms} {r p t : Int} {d : Nat} (h : Ends s r p d t) (ht : (eOf s p t (3 - d)).there = true) : (eOf s p t (3 - d)).leaf = true := by
  rcases h.stop with e | e
  · rw [ht] at e; cases e
  · exact e
/-- What a leaf maps. -/
theorem leafMap_eq {e : En} {L : Nat} {p : Int} (hp : InP p) (hf : entFault e L = 0) (hl : e.leaf = true) (hs : span L = pow8 L) : leafMap e L p = ⟨p / pow8 L * pow8 L, L, e.frame, e.rights⟩ := by
  unfold leafMap
  rw [if_pos ⟨hf, hl, hp.1, hp.2⟩, hs]
theorem span_pow {L : Nat} (h : L < 3) : span L = pow8 L := by
  have : L = 0 ∨ L = 1 ∨ L = 2 := by omega
  rcases this with rfl | rfl | rfl <;> rfl
theorem over_pre {L : Nat} (h : L < 3) (b p : Int) (f ri : Int) : over ⟨b * pow8 L, L, f, ri⟩ p = decide (p / pow8 L = b) := by
  have hs := span_pow h
  have h8 := pow8_pos L
  have hL : L = 0 ∨ L = 1 ∨ L = 2 := by omega
  cases ho : over ⟨b * pow8 L, L, f, ri⟩ p with
  | true =>
    have := over_iff.1 ho
    dsimp only at this
    rw [hs] at this
    symm
    refine decide_eq_true ?_
    rcases hL with rfl | rfl | rfl <;> simp [pow8] at this ⊢ <;> omega
  | false =>
    have := over_false.1 ho
    dsimp only at this
    rw [hs] at this
    symm
    refine decide_eq_false ?_
    rcases hL with rfl | rfl | rfl <;> simp [pow8] at this ⊢ <;> omega
/-- The mapping at the end of a way: which it is, and which pages it has. -/
theorem Ends.map {s : Ms} {r p t : Int} {d : Nat} (hp : InP p) (h : Ends s r p d t) (hl : (eOf s p t (3 - d)).leaf = true) :
    3 - d < 3 ∧ leafMap (eOf s p t (3 - d)) ((3 - d : Nat) : Int) p = ⟨p / pow8 (3 - d) * pow8 (3 - d), ((3 - d : Nat) : Int), (eOf s p t (3 - d)).frame, (eOf s p t (3 - d)).rights⟩ ∧
    ∀ q, over (leafMap (eOf s p t (3 - d)) ((3 - d : Nat) : Int) p) q = decide (q / pow8 (3 - d) = p / pow8 (3 - d)) := by
  obtain ⟨_, _, h3, _, hf⟩ := dec_leaf h.dec hl
  have h3' : 3 - d < 3 := by omega
  have e := leafMap_eq hp hf hl (span_pow h3')
  refine ⟨h3', e, fun q => ?_⟩
  have e' : leafMap (eOf s p t (3 - d)) ((3 - d : Nat) : Int) p = ⟨p / pow8 (3 - d) * pow8 (3 - d), ((3 - d : Nat) : Int), (eOf s p t (3 - d)).frame, (eOf s p t (3 - d)).rights⟩ := e
  rw [e']
  exact over_pre h3' _ _ _ _
/-- Pages that a mapping has are mapped by it. -/
theorem Wf.overMap {s : Ms} {r : Int} {gone : List Int} {X : Int → Prop} (_ : Wf s r gone X) {p q : Int} {m : Mp} (hp : InP p) (hq : InP q) (hm : mapAt s r p = some m) (ho : over m q = true) (hw : Wf s r gone X) : mapAt s r q = some m := by
  obtain ⟨d, t, he⟩ := hw.ends p hp
  rw [mapAt_ends hp he] at hm
  split at hm
  · rename_i hl
    injection hm with hm
    obtain ⟨h3, e1, e2⟩ := he.map hp hl
    rw [← hm, e2 q] at ho
    have hpre := of_decide_eq_true ho
    obtain ⟨hq', e3⟩ := he.same hp hq hpre
    rw [mapAt_ends hq hq', e3, if_pos hl, ← hm]
    have hl' := hl
    rw [← e3] at hl'
    rw [← e3, (hq'.map hq hl').2.1, e3, e1, hpre]
  · cases hm
theorem Wf.self {s : Ms} {r : Int} {gone : List Int} {X : Int → Prop} (hw : Wf s r gone X) {p : Int} {m : Mp} (hp : InP p) (hm : mapAt s r p = some m) : over m p = true ∧ MapOk m := by
  obtain ⟨d, t, he⟩ := hw.ends p hp
  rw [mapAt_ends hp he] at hm
  split at hm
  · rename_i hl
    injection hm with hm
    obtain ⟨h3, e1, e2⟩ := he.map hp hl
    subst hm
    refine ⟨by rw [e2 p]; exact decide_eq_true rfl, ?_⟩
    have hf := (enc_dec he.dec).1
    have ht := (dec_leaf he.dec hl).1
    have hk := entOk_of hf ht
    have hs := span_pow h3
    have h8 := pow8_pos (3 - d)
    have hL := hk.leaf hl
    have k1 : 0 ≤ (eOf s p t (3 - d)).rights := hk.r0
    have k2 : (eOf s p t (3 - d)).rights ≤ 7 := hk.r7
    have k3 : 0 ≤ (eOf s p t (3 - d)).frame := hk.f0
    have k4 : (eOf s p t (3 - d)).frame < 1048576 := hk.f1
    have k5 : (eOf s p t (3 - d)).frame % span ((3 - d : Nat) : Int) = 0 := hL.2
    rw [hs] at k5
    rw [e1]
    have hp' : 0 ≤ p ∧ p < 4096 := hp
    have hd : 3 - d = 0 ∨ 3 - d = 1 ∨ 3 - d = 2 := by omega
    refine mapOk_of ?_
    unfold check
    dsimp only
    rw [hs]
    rw [if_neg (by omega), if_neg, if_neg]
    · rw [Int.mul_emod_left]
      omega
    · generalize (eOf s p t (3 - d)).rights = ri at *
      generalize (eOf s p t (3 - d)).frame = fr at *
      clear e1 e2 hf ht hl he hk hL k5 hs h8
      rcases hd with h | h | h <;> rw [h] <;> simp only [pow8] <;> omega
  · cases hm

/-- Tables on the way to a leaf, and it: so many are lacking below t, which is of the level sz + n. -/
def chain (s : Ms) (p lw : Int) (sz : Nat) : Nat → Int → Ms
  | 0, t => s.setW t.toNat (index p sz).toNat lw
  | n + 1, t => match s.top with
    | some k => chain ((s.take k).setW t.toNat (index p (sz + n + 1 : Nat)).toNat (tabW k (sz + n + 1))) p lw sz n k
    | none => s
theorem top_of {s : Ms} (h : 0 < s.frees.length) : ∃ k, s.top = some k := by
  have := Ms.frees_top s
  cases ht : s.top with
  | some k => exact ⟨k, rfl⟩
  | none =>
    rw [ht] at this
    have := List.getLast?_eq_none_iff.1 this
    rw [this] at h
    cases h
theorem frees_take_len {s : Ms} {k : Nat} (h : s.top = some k) : (s.take k).frees.length + 1 = s.frees.length := by
  have := congrArg List.length (Ms.frees_take s k h)
  rw [List.length_append, List.length_singleton] at this
  exact this
theorem graft_eq (s : Ms) (p t : Int) (d k : Nat) : graft s p t d k = (s.take k).setW t.toNat (index p (3 - d : Nat)).toNat (tabW k (3 - d)) := rfl
theorem tabW_range {k : Int} (h0 : 0 ≤ k) (h1 : k < 1048576) {L : Nat} (hL : 0 < L) (hL3 : L ≤ 3) : 0 ≤ tabW k L ∧ tabW k L < 18446744073709551616 := by
  have hf := tabE_ok h0 h1 hL hL3
  have := wordE_ne (entOk_of hf rfl)
  unfold tabW encW
  rw [if_pos ⟨hf, rfl⟩]
  omega
theorem chain_ok {p lw : Int} {sz : Nat} (hp : InP p) (h3 : sz < 3) (hc : decC lw sz = 0) (hl : (decE lw sz).leaf = true) (hlw : 0 ≤ lw ∧ lw < 18446744073709551616) : ∀ (n d : Nat) (t : Int) (s : Ms) (r : Int) (gone : List Int) (X : Int → Prop), sz + n + d = 3 → s.Inv → s.n ≤ 128 → n ≤ s.frees.length →
    Wf s r gone X → (∀ u, X u → u = t) → Ends s r p d t → (eOf s p t (3 - d)).there = false →
    Wf (chain s p lw sz n t) r gone (fun _ => False) ∧ (chain s p lw sz n t).Inv ∧ (chain s p lw sz n t).n = s.n ∧ (chain s p lw sz n t).frees.length + n = s.frees.length ∧
    ∀ q, InP q → if q / pow8 sz = p / pow8 sz then mapAt (chain s p lw sz n t) r q = some (leafMap (decE lw sz) sz q) ∧ (way (chain s p lw sz n t) r q).e = decE lw sz else (mapAt (chain s p lw sz n t) r q = mapAt s r q ∧ (mapAt s r q ≠ none → way (chain s p lw sz n t) r q = way s r q)) := by
  intro n
  induction n with
  | zero =>
    intro d t s r gone X hd hi hn hf hw hX he ht
    have e3 : 3 - d = sz := by omega
    have hv : stopW lw (3 - d) := by
      rw [e3]
      exact ⟨hc, fun h => by rw [hl] at h; cases h.2⟩
    have hlw0 : lw ≠ 0 := by
      intro h0
      rw [h0, (dec_zero (by omega)).2] at hl
      cases hl
    have hW := hw.put hp he.le he.tab he.no hv
    have es : chain s p lw sz 0 t = putAt s p t d lw := by unfold chain putAt; rw [e3]
    rw [es]
    refine ⟨hW.mono ?_, hi.setW _ _ hlw, rfl, rfl, fun q hq => ?_⟩
    · rintro u (⟨a, b⟩ | ⟨a, b⟩)
      · rcases b with b | b
        · exact hlw0 b
        · exact b (hX u a)
      · exact hlw0 a
    · obtain ⟨e, u, hu⟩ := hw.ends q hq
      obtain ⟨hu', hE⟩ := put_ends hw hp he.le he.tab he.no hv hq hu
      by_cases hpre : q / pow8 sz = p / pow8 sz
      · rw [if_pos hpre]
        rw [← e3] at hpre
        obtain ⟨hs, _⟩ := he.same hp hq hpre
        obtain ⟨rfl, rfl⟩ := hs.unique hu
        rw [if_pos ⟨rfl, hpre⟩] at hE
        rw [mapAt_ends hq hu', hE, way_ends hq.1 hq.2 hu', hE, e3, if_pos hl]
        exact ⟨rfl, rfl⟩
      · rw [if_neg hpre]
        rw [if_neg (by rw [e3]; exact fun h => hpre h.2)] at hE
        rw [mapAt_ends hq hu', mapAt_ends hq hu, hE]
        refine ⟨rfl, fun _ => ?_⟩
        rw [way_ends hq.1 hq.2 hu', way_ends hq.1 hq.2 hu, hE]
        have : tabsD (putAt s p t d lw) r q (e + 1) = tabsD s r q (e + 1) := by
          unfold tabsD
          refine List.map_congr_left fun x hx => ?_
          rw [put_tab hw hp he.le he.tab he.no hv hq x (by have := List.mem_range.1 hx; have := hu.le; omega)]
        rw [this]
  | succ n ih =>
    intro d t s r gone X hd hi hn hf hw hX he ht
    obtain ⟨k, hk⟩ := top_of (show 0 < s.frees.length by omega)
    obtain ⟨hkn, hkt⟩ := Ms.top_lt hi hk
    have hd2 : d ≤ 2 := by omega
    have e3 : 3 - d = sz + n + 1 := by omega
    have es : chain s p lw sz (n + 1) t = chain (graft s p t d k) p lw sz n k := by
      rw [graft_eq, e3]
      conv => lhs; unfold chain
      rw [hk]
    have hG := hw.graft he hp hd2 hkt hkn hn
    have hgE := fun q (hq : InP q) e u hu => graft_ends (e := e) (u := u) hw he hp hd2 hkt hkn hn hq hu
    have hEnd := hgE p hp d t he
    rw [if_pos rfl] at hEnd
    have hGi : (graft s p t d k).Inv := (hi.take hk).setW _ _ (tabW_range (by omega) (by omega) (by omega) (by omega))
    have hGf : (graft s p t d k).frees.length + 1 = s.frees.length := frees_take_len hk
    have hGn : (graft s p t d k).n = s.n := rfl
    have hE0 : (eOf (graft s p t d k) p k (3 - (d + 1))).there = false := by
      rw [show 3 - (d + 1) = 2 - d by omega, hEnd.2]; rfl
    obtain ⟨i1, i2, i3, i4, i5⟩ := ih (d + 1) k (graft s p t d k) r gone _ (by omega) hGi (by omega) (by omega) hG (fun u hu => by
      rcases hu with ⟨a, b⟩ | a
      · exact absurd (hX u a) b
      · exact a) hEnd.1 hE0
    rw [es]
    refine ⟨i1, i2, i3.trans hGn, by omega, fun q hq => ?_⟩
    have hm : mapAt (graft s p t d k) r q = mapAt s r q ∧ (mapAt s r q ≠ none → way (graft s p t d k) r q = way s r q) := by
      obtain ⟨e, u, hu⟩ := hw.ends q hq
      have hg := hgE q hq e u hu
      split at hg
      · rename_i hpre
        obtain ⟨hs, hsE⟩ := he.same hp hq hpre
        obtain ⟨rfl, rfl⟩ := hs.unique hu
        have hz := (he.not ht).1
        have e2 : mapAt s r q = none := by rw [mapAt_ends hq hu, hsE, hz]; rfl
        rw [e2]
        refine ⟨?_, fun h => absurd rfl h⟩
        rw [mapAt_ends hq hg.1, show 3 - (d + 1) = 2 - d by omega, hg.2]
        rfl
      · rename_i hpre
        refine ⟨by rw [mapAt_ends hq hg.1, hg.2, mapAt_ends hq hu], fun _ => ?_⟩
        rw [way_ends hq.1 hq.2 hg.1, way_ends hq.1 hq.2 hu, hg.2]
        have : tabsD (graft s p t d k) r q (e + 1) = tabsD s r q (e + 1) := by
          unfold tabsD
          refine List.map_congr_left fun x hx => ?_
          rw [graft_tab hw he hp hd2 hkt hkn hn hq x (by have := List.mem_range.1 hx; have := hu.le; omega), if_neg (fun y => hpre y.2)]
        rw [this]
    have := i5 q hq
    split at this
    · rename_i hpre
      rw [if_pos hpre]
      exact this
    · rename_i hpre
      rw [if_neg hpre]
      refine ⟨this.1.trans hm.1, fun hne => ?_⟩
      rw [this.2 (by rw [hm.1]; exact hne), hm.2 hne]
end Go.Proofs.Ytndhgomikpokpaa

namespace Go.Proofs.Ytndhgomikpokpaa
open Go.RowKit

def leafE (x : Mp) : En := ⟨true, true, x.rights, false, false, x.frame⟩
/-- table.Insert. -/
def insC (s : Ms) (r : Int) (x : Mp) : Int :=
  if check x ≠ 0 then check x
  else if (way s r x.page).code ≠ 0 then (way s r x.page).code
  else if (way s r x.page).e.there = true ∨ (way s r x.page).lev < x.size then 4
  else if (s.frees.length : Int) < (way s r x.page).lev - x.size then 6 else 0
def insS (s : Ms) (r : Int) (x : Mp) : Ms :=
  if insC s r x = 0 then chain s x.page (encW (leafE x) x.size) x.size.toNat ((way s r x.page).lev - x.size).toNat ((way s r x.page).tabs.getLastD 0) else s
/-- table.Find. -/
def findC (s : Ms) (r p : Int) : Int := if (way s r p).code ≠ 0 then (way s r p).code else if (way s r p).e.there = false then 5 else 0
def findM (s : Ms) (r p : Int) : Mp := if findC s r p = 0 then leafMap (way s r p).e (way s r p).lev p else Mp.zero
def findE (s : Ms) (r p : Int) : En := if findC s r p = 0 then (way s r p).e else En.zero
def allZ (s : Ms) (t : Int) : Bool := (List.range 8).all fun i => wordV s t i == 0
/-- The word on the way in the k-th table goes; and the table, if nothing is in it then; and so on. -/
def cutR (p : Int) (tabs : List Int) : Nat → Ms → Ms × List Int
  | 0, s => (s.setW (tabs.getD 0 0).toNat (index p (3 : Nat)).toNat 0, [])
  | k + 1, s =>
    if allZ (s.setW (tabs.getD (k + 1) 0).toNat (index p (3 - (k + 1) : Nat)).toNat 0) (tabs.getD (k + 1) 0) = true then
      ((cutR p tabs k (s.setW (tabs.getD (k + 1) 0).toNat (index p (3 - (k + 1) : Nat)).toNat 0)).1, tabs.getD (k + 1) 0 :: (cutR p tabs k (s.setW (tabs.getD (k + 1) 0).toNat (index p (3 - (k + 1) : Nat)).toNat 0)).2)
    else (s.setW (tabs.getD (k + 1) 0).toNat (index p (3 - (k + 1) : Nat)).toNat 0, [])
/-- table.Remove. -/
def remS (s : Ms) (r p : Int) : Ms := if findC s r p = 0 then (cutR p (way s r p).tabs ((way s r p).tabs.length - 1) s).1 else s
def remG (s : Ms) (r p : Int) : List Int := if findC s r p = 0 then (cutR p (way s r p).tabs ((way s r p).tabs.length - 1) s).2 else []
/-- table.Protect. -/
def prC (s : Ms) (r p ri : Int) : Int := if ri < 0 ∨ 7 < ri then 1 else findC s r p
def prM (s : Ms) (r p ri : Int) : Mp := if prC s r p ri = 0 then { findM s r p with rights := ri } else Mp.zero
def prS (s : Ms) (r p ri : Int) : Ms :=
  if prC s r p ri = 0 then s.setW ((way s r p).tabs.getLastD 0).toNat (index p (way s r p).lev).toNat (encW { (way s r p).e with rights := ri } (way s r p).lev) else s

theorem allZ_iff {s : Ms} {t : Int} : allZ s t = true ↔ ∀ i : Nat, i < 8 → wordV s t i = 0 := by
  unfold allZ
  rw [List.all_eq_true]
  constructor
  · intro h i hi
    have := h i (List.mem_range.2 hi)
    simpa using this
  · intro h i hi
    have := h i (List.mem_range.1 hi)
    simpa using this
theorem tabsD_last {s : Ms} {r p t : Int} {d : Nat} (h : tabD s r p d = some t) : (tabsD s r p (d + 1)).getLastD 0 = t := by rw [tabsD_succ h]; simp
theorem tabsD_get {s : Ms} {r p t : Int} {d n : Nat} (h : tabD s r p d = some t) (hn : d < n) : (tabsD s r p n).getD d 0 = t := by
  unfold tabsD
  rw [List.getD_eq_getElem?_getD, List.getElem?_map, List.getElem?_range hn]
  simp [h]
theorem wayE_map {s : Ms} {r : Int} {gone : List Int} {X : Int → Prop} (hw : Wf s r gone X) {p : Int} (hp : InP p) : (way s r p).code = 0 ∧ ((way s r p).e.there = true ↔ (way s r p).e.leaf = true) := by
  obtain ⟨d, t, he⟩ := hw.ends p hp
  rw [way_ends hp.1 hp.2 he]
  refine ⟨rfl, fun h => he.leafOf h, fun h => (dec_leaf he.dec h).1⟩
theorem find_out {s : Ms} {r p : Int} (hp : ¬ InP p) : (way s r p).code = 1 := by
  unfold way
  rw [if_neg]
  · rfl
  · unfold hasB
    rw [Bool.and_eq_true, decide_eq_true_eq, decide_eq_true_eq]
    exact hp
section
variable {s : Ms} {r : Int} {gone : List Int} {X : Int → Prop}
theorem Wf.find (hw : Wf s r gone X) {p : Int} (hp : InP p) : findC s r p = (if (mapAt s r p).isSome then 0 else 5) ∧ findM s r p = (mapAt s r p).getD Mp.zero := by
  obtain ⟨h1, h2⟩ := wayE_map hw hp
  unfold findM findC mapAt
  rw [h1, if_neg (by simp)]
  by_cases hl : (way s r p).e.leaf = true
  · have ht := h2.2 hl
    rw [if_pos hl, if_neg (by rw [ht]; simp)]
    simp
  · have ht : (way s r p).e.there = false := by
      cases h : (way s r p).e.there with
      | true => exact absurd (h2.1 h) hl
      | false => rfl
    rw [if_neg hl, if_pos ht]
    simp
theorem Wf.no_root (hw : Wf s r gone (fun u => u = r)) : Wf s r gone (fun _ => False) := by
  refine ⟨hw.ends, hw.inj, fun p d t hp hd ht => ?_, hw.use, hw.nd, hw.gz, hw.gt⟩
  rcases hw.full p d t hp hd ht with rfl | h
  · have := (hw.inj p p (d + 1) 0 t hp hp (by omega) (by omega) ht rfl).1
    omega
  · exact .inr h
theorem Wf.no_full {t : Int} (hw : Wf s r gone (fun u => u = t)) (h : allZ s t = false) : Wf s r gone (fun _ => False) := by
  refine ⟨hw.ends, hw.inj, fun p d u hp hd hu => ?_, hw.use, hw.nd, hw.gz, hw.gt⟩
  rcases hw.full p d u hp hd hu with rfl | h'
  · refine .inr ?_
    apply Classical.byContradiction
    intro hn
    have : allZ s u = true := allZ_iff.2 fun i hi => Classical.byContradiction fun hne => hn ⟨i, hi, hne⟩
    rw [this] at h; cases h
  · exact .inr h'
/-- The tables that go, one after the other. -/
theorem cutR_ok {p : Int} (hp : InP p) : ∀ (k : Nat) (s : Ms) (r : Int) (gone : List Int) (t : Int) (tabs : List Int), k ≤ 2 → s.Inv → Wf s r gone (fun u => u = t) → tabD s r p (k + 1) = some t → allZ s t = true → (∀ j, j ≤ k → tabs.getD j 0 = (tabD s r p j).getD 0) →
    Wf (cutR p tabs k s).1 r ((cutR p tabs k s).2.reverse ++ t :: gone) (fun _ => False) ∧ (cutR p tabs k s).1.Inv ∧ (cutR p tabs k s).1.n = s.n ∧ (cutR p tabs k s).1.frees = s.frees ∧ (∀ u, (cutR p tabs k s).1.tk u = s.tk u) ∧
    ∀ q, InP q → mapAt (cutR p tabs k s).1 r q = mapAt s r q ∧ (mapAt s r q ≠ none → way (cutR p tabs k s).1 r q = way s r q) := by
  intro k
  induction k with
  | zero =>
    intro s r gone t tabs hk hi hw ht hz htabs
    have hz' := allZ_iff.1 hz
    have h0 : tabs.getD 0 0 = r := htabs 0 (Nat.le_refl _)
    have hC := hw.cut hp (show 0 ≤ 2 by omega) (show tabD s r p 0 = some r from rfl) ht hz'
    have es : (cutR p tabs 0 s).1 = cutAt s p r 0 := by unfold cutR; rw [h0]
    have eg : (cutR p tabs 0 s).2 = [] := rfl
    rw [es, eg]
    refine ⟨(hC.mono ?_).no_root, hi.setW _ _ (by omega), rfl, rfl, fun _ => rfl, fun q hq => ?_⟩
    · rintro u (⟨a, b⟩ | a)
      · exact absurd a b
      · exact a
    · obtain ⟨e, x, hx⟩ := hw.ends q hq
      have hg := cut_ends hw hp (show 0 ≤ 2 by omega) (show tabD s r p 0 = some r from rfl) ht hz' hq hx
      split at hg
      · rename_i hpre
        have hq' : tabD s r q (0 + 1) = some t := by
          rw [← ht]
          exact tabD_prefix s r hq hp 1 (by omega) hpre
        have i2 := index_range hq (show 3 - (0 + 1) ≤ 3 by omega)
        have hw0 : wordV s t (index q (3 - (0 + 1) : Nat)) = 0 := by
          have := hz' (index q (3 - (0 + 1) : Nat)).toNat (by omega)
          rwa [Int.toNat_of_nonneg i2.1] at this
        have hnone : mapAt s r q = none := by
          have he1 : Ends s r q (0 + 1) t := ⟨by omega, hq', (hw.at_ hq (by omega) hq').1, (hw.at_ hq (by omega) hq').2, goB_zero (by omega) hw0⟩
          rw [mapAt_ends hq he1, eOf_zero (by omega) hw0]
          rfl
        rw [hnone]
        refine ⟨?_, fun h => absurd rfl h⟩
        rw [mapAt_ends hq hg.1, hg.2]
        rfl
      · rename_i hpre
        refine ⟨by rw [mapAt_ends hq hg.1, hg.2, mapAt_ends hq hx], fun _ => ?_⟩
        rw [way_ends hq.1 hq.2 hg.1, way_ends hq.1 hq.2 hx, hg.2]
        have : tabsD (cutAt s p r 0) r q (e + 1) = tabsD s r q (e + 1) := by
          unfold tabsD
          refine List.map_congr_left fun y hy => ?_
          rw [cut_tab hw hp (show 0 ≤ 2 by omega) (show tabD s r p 0 = some r from rfl) ht hz' hq y (by have := List.mem_range.1 hy; have := hx.le; omega), if_neg (fun z => hpre z.2)]
        rw [this]
  | succ k ih =>
    intro s r gone t tabs hk hi hw ht hz htabs
    have hz' := allZ_iff.1 hz
    obtain ⟨u, hu⟩ := tabD_some_mono ht (show k + 1 ≤ k + 1 + 1 by omega)
    have h0 : tabs.getD (k + 1) 0 = u := by rw [htabs (k + 1) (Nat.le_refl _), hu]; rfl
    have hC := hw.cut hp (show k + 1 ≤ 2 by omega) hu ht hz'
    have hCi : (cutAt s p u (k + 1)).Inv := hi.setW _ _ (by omega)
    have hmap : ∀ q, InP q → mapAt (cutAt s p u (k + 1)) r q = mapAt s r q ∧ (mapAt s r q ≠ none → way (cutAt s p u (k + 1)) r q = way s r q) := by
      intro q hq
      obtain ⟨e, x, hx⟩ := hw.ends q hq
      have hg := cut_ends hw hp (show k + 1 ≤ 2 by omega) hu ht hz' hq hx
      split at hg
      · rename_i hpre
        have hq' : tabD s r q (k + 1 + 1) = some t := by
          rw [← ht]
          exact tabD_prefix s r hq hp (k + 1 + 1) (by omega) (by rw [show 4 - (k + 1 + 1) = 3 - (k + 1) by omega]; exact hpre)
        have i2 := index_range hq (show 3 - (k + 1 + 1) ≤ 3 by omega)
        have hw0 : wordV s t (index q (3 - (k + 1 + 1) : Nat)) = 0 := by
          have := hz' (index q (3 - (k + 1 + 1) : Nat)).toNat (by omega)
          rwa [Int.toNat_of_nonneg i2.1] at this
        have hnone : mapAt s r q = none := by
          have he1 : Ends s r q (k + 1 + 1) t := ⟨by omega, hq', (hw.at_ hq (by omega) hq').1, (hw.at_ hq (by omega) hq').2, goB_zero (by omega) hw0⟩
          rw [mapAt_ends hq he1, eOf_zero (by omega) hw0]
          rfl
        rw [hnone]
        refine ⟨?_, fun h => absurd rfl h⟩
        rw [mapAt_ends hq hg.1, hg.2]
        rfl
      · rename_i hpre
        refine ⟨by rw [mapAt_ends hq hg.1, hg.2, mapAt_ends hq hx], fun _ => ?_⟩
        rw [way_ends hq.1 hq.2 hg.1, way_ends hq.1 hq.2 hx, hg.2]
        have : tabsD (cutAt s p u (k + 1)) r q (e + 1) = tabsD s r q (e + 1) := by
          unfold tabsD
          refine List.map_congr_left fun y hy => ?_
          rw [cut_tab hw hp (show k + 1 ≤ 2 by omega) hu ht hz' hq y (by have := List.mem_range.1 hy; have := hx.le; omega), if_neg (fun z => hpre z.2)]
        rw [this]
    have hX : Wf (cutAt s p u (k + 1)) r (t :: gone) (fun x => x = u) := hC.mono (by
      rintro x (⟨a, b⟩ | a)
      · exact absurd a b
      · exact a)
    have hpar : ∀ j, j ≤ k + 1 → tabD (cutAt s p u (k + 1)) r p j = tabD s r p j := fun j hj => by
      rw [cut_tab hw hp (show k + 1 ≤ 2 by omega) hu ht hz' hp j (by omega), if_neg (by omega)]
    have ez : s.setW (tabs.getD (k + 1) 0).toNat (index p (3 - (k + 1) : Nat)).toNat 0 = cutAt s p u (k + 1) := by rw [h0]
    unfold cutR
    rw [ez, h0]
    by_cases hzu : allZ (cutAt s p u (k + 1)) u = true
    · rw [if_pos hzu]
      obtain ⟨i1, i2, i3, i4, i5, i6⟩ := ih (cutAt s p u (k + 1)) r (t :: gone) u tabs (by omega) hCi hX (by rw [hpar (k + 1) (by omega)]; exact hu) hzu (fun j hj => by rw [hpar j (by omega)]; exact htabs j (by omega))
      refine ⟨?_, i2, i3, i4, i5, fun q hq => ?_⟩
      · rw [List.reverse_cons, List.append_assoc]
        exact i1
      · have a := i6 q hq
        have b := hmap q hq
        refine ⟨a.1.trans b.1, fun hne => ?_⟩
        rw [a.2 (by rw [b.1]; exact hne), b.2 hne]
    · rw [if_neg hzu]
      exact ⟨hX.no_full (by simpa using hzu), hCi, rfl, rfl, fun _ => rfl, hmap⟩
end
end Go.Proofs.Ytndhgomikpokpaa

namespace Go.Proofs.Ytndhgomikpokpaa
open Go.RowKit

/-- A book that says what the tables say. -/
structure Lk (s : Ms) (r : Int) (L : List Mp) : Prop where
  ok : Bk.Ok L
  same : ∀ q, InP q → Bk.find L q = mapAt s r q
section
variable {s : Ms} {r : Int} {gone : List Int} {X : Int → Prop} {L : List Mp}
theorem MapOk.inP {x : Mp} (h : MapOk x) : InP x.page := ⟨h.p0, by have := h.p1; have := h.sp; omega⟩
theorem Bk.mem_find {L : List Mp} (h : Bk.Ok L) {m : Mp} (hm : m ∈ L) : Bk.find L m.page = some m := by
  obtain ⟨k, hk, rfl⟩ := List.getElem_of_mem hm
  have hc := h.chk _ (List.getElem_mem hk)
  exact (Bk.over_at h hk (over_iff.2 ⟨by omega, by have := hc.sp; omega⟩)).2
theorem Bk.find_mem {L : List Mp} {p : Int} {m : Mp} (h : Bk.find L p = some m) : m ∈ L ∧ over m p = true := ⟨List.mem_of_find?_eq_some h, by have := List.find?_some h; exact this⟩
theorem Lk.mem (h : Lk s r L) {m : Mp} (hm : m ∈ L) : mapAt s r m.page = some m := by
  rw [← h.same _ (h.ok.chk _ hm).inP]
  exact Bk.mem_find h.ok hm
/-- Two books that say the same of each page are the same. -/
theorem Bk.ext_find {a b : List Mp} (ha : Bk.Ok a) (hb : Bk.Ok b) (h : ∀ q, InP q → Bk.find a q = Bk.find b q) : a = b := by
  refine Bk.Ok.ext ha hb fun x => ?_
  constructor
  · intro hx
    have := Bk.mem_find ha hx
    rw [h _ (ha.chk _ hx).inP] at this
    exact (Bk.find_mem this).1
  · intro hx
    have := Bk.mem_find hb hx
    rw [← h _ (hb.chk _ hx).inP] at this
    exact (Bk.find_mem this).1
theorem Lk.unique {K : List Mp} (h : Lk s r L) (k : Lk s r K) : L = K := Bk.ext_find h.ok k.ok fun q hq => (h.same q hq).trans (k.same q hq).symm
/-- What a page that is of two mappings says of them. -/
theorem meet_of {a b : Mp} (ha : MapOk a) (hb : MapOk b) {q : Int} (h1 : over a q = true) (h2 : over b q = true) : meet a b = true := by
  cases h : meet a b with
  | true => rfl
  | false =>
    have := (meet_false ha hb).1 h
    have := over_iff.1 h1
    have := over_iff.1 h2
    omega
/-- Below a table there is a mapping. -/
theorem Wf.some_map (hw : Wf s r gone (fun _ => False)) : ∀ (n d : Nat), n + d = 2 → ∀ {p t : Int}, InP p → tabD s r p (d + 1) = some t → ∃ q, InP q ∧ q / pow8 (3 - d) = p / pow8 (3 - d) ∧ mapAt s r q ≠ none := by
  intro n
  induction n with
  | zero =>
    intro d hd p t hp ht
    obtain rfl : d = 2 := by omega
    rcases hw.full p 2 t hp (by omega) ht with h | ⟨i, hi, hne⟩
    · cases h
    obtain ⟨q, hq, hpre, hix, _⟩ := page_at hp (show 0 ≤ 3 by omega) i hi
    have hq' : tabD s r q 3 = some t := by rw [← ht]; exact tabD_prefix s r hq hp 3 (by omega) hpre
    obtain ⟨h1, h2⟩ := hw.at_ hq (by omega) hq'
    have hd0 : decC (wordV s t (index q (0 : Nat))) (0 : Nat) = 0 := h2
    have hl := dec0_leaf hd0
    have hE : Ends s r q 3 t := by
      refine ⟨by omega, hq', h1, h2, ?_⟩
      unfold goB eOf
      show (_ && (_ && ((decE (wordV s t (index q (0 : Nat))) (0 : Nat)).there && !(decE (wordV s t (index q (0 : Nat))) (0 : Nat)).leaf))) = false
      rcases hl with e | e <;> simp_all
    refine ⟨q, hq, hpre, ?_⟩
    rw [mapAt_ends hq hE]
    have ht' : (eOf s q t (3 - 3)).there = true := by
      cases h : (eOf s q t (3 - 3)).there with
      | true => rfl
      | false =>
        have := (hE.not h).2
        have hix' : index q (3 - 3 : Nat) = i := hix
        rw [hix'] at this
        exact absurd this hne
    rw [if_pos (hE.leafOf ht')]
    simp
  | succ n ih =>
    intro d hd p t hp ht
    rcases hw.full p d t hp (by omega) ht with h | ⟨i, hi, hne⟩
    · cases h
    obtain ⟨q, hq, hpre, hix, _⟩ := page_at hp (show 2 - d ≤ 3 by omega) i hi
    have e1 : 2 - d + 1 = 3 - d := by omega
    have e2 : 3 - (d + 1) = 2 - d := by omega
    rw [e1] at hpre
    have hq' : tabD s r q (d + 1) = some t := by rw [← ht]; exact tabD_prefix s r hq hp (d + 1) (by omega) (by rw [show 4 - (d + 1) = 3 - d by omega]; exact hpre)
    cases hg : goB s q t (3 - (d + 1)) with
    | true =>
      have hv : tabD s r q (d + 1 + 1) = some (eOf s q t (3 - (d + 1))).frame := tabD_succ.2 ⟨t, hq', hg, rfl⟩
      obtain ⟨x, hx, hxp, hxm⟩ := ih (d + 1) (by omega) hq hv
      refine ⟨x, hx, ?_, hxm⟩
      rw [← hpre]
      exact div_up (by omega) hxp
    | false =>
      obtain ⟨h1, h2⟩ := hw.at_ hq (by omega) hq'
      have hE : Ends s r q (d + 1) t := ⟨by omega, hq', h1, h2, hg⟩
      refine ⟨q, hq, hpre, ?_⟩
      rw [mapAt_ends hq hE]
      have ht' : (eOf s q t (3 - (d + 1))).there = true := by
        cases h : (eOf s q t (3 - (d + 1))).there with
        | true => rfl
        | false =>
          have := (hE.not h).2
          rw [e2, hix] at this
          exact absurd this hne
      rw [if_pos (hE.leafOf ht')]
      simp
/-- Where a mapping may stand: just where the book lets it. -/
theorem there_bad (hw : Wf s r gone (fun _ => False)) (hL : Lk s r L) {x : Mp} (hx : MapOk x) : ((way s r x.page).e.there = true ∨ (way s r x.page).lev < x.size) ↔ Bk.bad L x = true := by
  have hp := hx.inP
  obtain ⟨d, t, he⟩ := hw.ends _ hp
  have hle := he.le
  obtain ⟨z, hz, hz3⟩ : ∃ z : Nat, x.size = z ∧ z < 3 := by
    rcases hx.size with ⟨a, _⟩ | ⟨a, _⟩ | ⟨a, _⟩
    · exact ⟨0, a, by omega⟩
    · exact ⟨1, a, by omega⟩
    · exact ⟨2, a, by omega⟩
  have hsp : span x.size = pow8 z := by rw [hz]; exact span_pow hz3
  have hxe : x = ⟨x.page / pow8 z * pow8 z, z, x.frame, x.rights⟩ := by
    have := hx.al
    rw [hsp] at this
    have h8 := pow8_pos z
    have e : x.page / pow8 z * pow8 z = x.page := by have := Int.mul_ediv_add_emod x.page (pow8 z); rw [Int.mul_comm]; omega
    rw [e, ← hz]
  have hov : ∀ q, over x q = decide (q / pow8 z = x.page / pow8 z) := fun q => by
    conv => lhs; rw [hxe]
    exact over_pre hz3 _ _ _ _
  rw [way_ends hp.1 hp.2 he]
  dsimp only
  rw [hz]
  constructor
  · rintro (h | h)
    · have hl := he.leafOf h
      have hm : mapAt s r x.page = some (leafMap (eOf s x.page t (3 - d)) ((3 - d : Nat) : Int) x.page) := by rw [mapAt_ends hp he, if_pos hl]
      obtain ⟨h1, h2⟩ := hw.self hp hm
      rw [← hL.same _ hp] at hm
      exact Bk.bad_find (by rw [hm]; rfl)
    · have hz1 : 3 - d < z := by omega
      obtain ⟨u, hu⟩ := tabD_some_mono he.tab (show 3 - z + 1 ≤ d by omega)
      obtain ⟨q, hq, hpre, hqm⟩ := hw.some_map (z - 1) (3 - z) (by omega) hp hu
      rw [show 3 - (3 - z) = z by omega] at hpre
      cases hm : mapAt s r q with
      | none => exact absurd hm hqm
      | some m =>
        obtain ⟨h1, h2⟩ := hw.self hq hm
        rw [← hL.same _ hq] at hm
        have hmem := (Bk.find_mem hm).1
        have : meet m x = true := meet_of h2 hx h1 (by rw [hov]; exact decide_eq_true hpre)
        exact List.any_eq_true.2 ⟨m, hmem, this⟩
  · intro hb
    obtain ⟨m, hm, hmeet⟩ := List.any_eq_true.1 hb
    have hmo := hL.ok.chk _ hm
    have hma := hL.mem hm
    apply Classical.byContradiction
    intro hn
    rw [not_or] at hn
    have ht : (eOf s x.page t (3 - d)).there = false := by simpa using hn.1
    have hzl : z ≤ 3 - d := by omega
    unfold meet at hmeet
    rcases Bool.or_eq_true_iff.1 hmeet with h | h
    · have := Wf.overMap hw hmo.inP hp hma h hw
      rw [mapAt_ends hp he, (he.not ht).1] at this
      cases this
    · rw [hov] at h
      have hpre := div_up hzl (of_decide_eq_true h)
      obtain ⟨hs, hse⟩ := he.same hp hmo.inP hpre
      rw [mapAt_ends hmo.inP hs, hse, (he.not ht).1] at hma
      cases hma
theorem ins_code (hw : Wf s r gone (fun _ => False)) (hL : Lk s r L) (x : Mp) : (insC s r x = 6 ∧ check x = 0 ∧ Bk.bad L x = false ∧ s.frees.length < 3) ∨ insC s r x = Bk.addC L x := by
  unfold insC Bk.addC
  by_cases hc : check x = 0
  · have hx := mapOk_of hc
    have hp := hx.inP
    have hwc := (wayE_map hw hp).1
    have hb := there_bad hw hL hx
    have hcn : ¬ (check x ≠ 0) := by omega
    have hwn : ¬ ((way s r x.page).code ≠ 0) := by rw [hwc]; simp
    rw [if_neg hcn, if_neg hwn, if_neg hcn]
    by_cases h : (way s r x.page).e.there = true ∨ (way s r x.page).lev < x.size
    · rw [if_pos h, if_pos (hb.1 h)]
      exact .inr rfl
    · rw [if_neg h]
      have hbf : Bk.bad L x = false := by
        cases hbb : Bk.bad L x with
        | false => rfl
        | true => exact absurd (hb.2 hbb) h
      by_cases hf : (s.frees.length : Int) < (way s r x.page).lev - x.size
      · rw [if_pos hf]
        refine .inl ⟨rfl, hc, hbf, ?_⟩
        obtain ⟨d, t, he⟩ := hw.ends _ hp
        rw [way_ends hp.1 hp.2 he] at hf
        dsimp only at hf
        have h0 : 0 ≤ x.size := by rcases hx.size with ⟨a, _⟩ | ⟨a, _⟩ | ⟨a, _⟩ <;> omega
        by_cases hd : d = 0
        · subst hd
          by_cases h3 : s.frees.length < 3
          · exact h3
          · exfalso
            rcases hx.size with ⟨a, _⟩ | ⟨a, _⟩ | ⟨a, _⟩ <;> omega
        · omega
      · rw [if_neg hf, if_neg (by rw [hbf]; simp)]
        exact .inr rfl
  · rw [if_pos hc, if_pos hc]
    exact .inr rfl

/-- Insert. -/
theorem ins_ok (hw : Wf s r gone (fun _ => False)) (hi : s.Inv) (hn : s.n ≤ 128) (x : Mp) :
    Wf (insS s r x) r gone (fun _ => False) ∧ (insS s r x).Inv ∧ (insS s r x).n = s.n ∧
    ∀ q, InP q → mapAt (insS s r x) r q = (if insC s r x = 0 ∧ over x q = true then some x else mapAt s r q) ∧
      (mapAt s r q ≠ none → way (insS s r x) r q = way s r q) ∧
      (insC s r x = 0 ∧ over x q = true → mapAt s r q = none ∧ (way (insS s r x) r q).e = leafE x) := by
  unfold insS
  by_cases hc : insC s r x = 0
  · rw [if_pos hc]
    have hc0 := hc
    unfold insC at hc0
    by_cases hk : check x = 0
    · have hx := mapOk_of hk
      have hp := hx.inP
      have hwc := (wayE_map hw hp).1
      rw [if_neg (by omega), if_neg (by rw [hwc]; simp)] at hc0
      by_cases h : (way s r x.page).e.there = true ∨ (way s r x.page).lev < x.size
      · rw [if_pos h] at hc0; cases hc0
      rw [if_neg h] at hc0
      by_cases hf : (s.frees.length : Int) < (way s r x.page).lev - x.size
      · rw [if_pos hf] at hc0; cases hc0
      rw [not_or] at h
      obtain ⟨d, t, he⟩ := hw.ends _ hp
      have hle := he.le
      rw [way_ends hp.1 hp.2 he] at h hf ⊢
      dsimp only at h hf ⊢
      rw [tabsD_last he.tab]
      obtain ⟨z, hz, hz3⟩ : ∃ z : Nat, x.size = z ∧ z < 3 := by
        rcases hx.size with ⟨a, _⟩ | ⟨a, _⟩ | ⟨a, _⟩
        · exact ⟨0, a, by omega⟩
        · exact ⟨1, a, by omega⟩
        · exact ⟨2, a, by omega⟩
      have hsp : span x.size = pow8 z := by rw [hz]; exact span_pow hz3
      have h8 := pow8_pos z
      have hal : x.page / pow8 z * pow8 z = x.page := by have := Int.mul_ediv_add_emod x.page (pow8 z); have h2 := hx.al; rw [hsp] at h2; rw [Int.mul_comm]; omega
      have hxe : x = ⟨x.page / pow8 z * pow8 z, z, x.frame, x.rights⟩ := by rw [hal, ← hz]
      have hov : ∀ q, over x q = decide (q / pow8 z = x.page / pow8 z) := fun q => by
        conv => lhs; rw [hxe]
        exact over_pre hz3 _ _ _ _
      have hfa : entFault (leafE x) z = 0 := by
        refine entFault_ok rfl ⟨by omega, by omega, hx.r0, hx.r7, hx.f0, hx.f1, fun _ => ⟨by omega, ?_⟩, fun h => by cases h⟩
        have := hx.fa
        rw [hz] at this
        exact this
      obtain ⟨k1, k2, k3⟩ := dec_enc hfa
      have hrg : 0 ≤ encW (leafE x) z ∧ encW (leafE x) z < 18446744073709551616 := by
        have := wordE_ne (entOk_of hfa rfl)
        unfold encW
        rw [if_pos ⟨hfa, rfl⟩]
        omega
      have ht : (eOf s x.page t (3 - d)).there = false := by simpa using h.1
      rw [hz] at h hf ⊢
      rw [Int.toNat_natCast]
      obtain ⟨n, hnn⟩ : ∃ n : Nat, ((3 - d : Nat) : Int) - z = n := ⟨3 - d - z, by omega⟩
      rw [hnn, Int.toNat_natCast]
      obtain ⟨i1, i2, i3, i4, i5⟩ := chain_ok (p := x.page) (lw := encW (leafE x) z) (sz := z) hp hz3 k1 (by rw [k2]; rfl) hrg n d t s r gone (fun _ => False) (by omega) hi hn (by omega) hw (fun _ h => h.elim) he ht
      refine ⟨i1, i2, i3, fun q hq => ?_⟩
      have := i5 q hq
      by_cases hpre : q / pow8 z = x.page / pow8 z
      · rw [if_pos hpre, k2] at this
        have ho : over x q = true := by rw [hov]; exact decide_eq_true hpre
        have hlm : leafMap (leafE x) z q = x := by
          rw [leafMap_eq hq hfa rfl (span_pow hz3), hpre]
          exact hxe.symm
        have hnone : mapAt s r q = none := by
          obtain ⟨hs, hse⟩ := he.same hp hq (div_up (show z ≤ 3 - d by omega) hpre)
          rw [mapAt_ends hq hs, hse, (he.not ht).1]
          rfl
        refine ⟨?_, fun hne => absurd hnone hne, fun _ => ⟨hnone, this.2⟩⟩
        rw [this.1, hlm, if_pos ⟨hc, ho⟩]
      · rw [if_neg hpre] at this
        have ho : ¬ over x q = true := by rw [hov]; simpa using hpre
        refine ⟨?_, this.2, fun h => absurd h.2 ho⟩
        rw [this.1, if_neg (fun h => ho h.2)]
    · rw [if_pos hk] at hc0
      exact absurd hc0 hk
  · rw [if_neg hc]
    exact ⟨hw, hi, rfl, fun q hq => ⟨by rw [if_neg (fun h => hc h.1)], fun _ => rfl, fun h => absurd h.1 hc⟩⟩
end
end Go.Proofs.Ytndhgomikpokpaa

namespace Go.Proofs.Ytndhgomikpokpaa
open Go.RowKit
section
variable {s : Ms} {r : Int} {gone : List Int} {X : Int → Prop} {L : List Mp}
theorem stop_zero {L : Nat} (h : L ≤ 3) : stopW 0 L := ⟨(dec_zero h).1, by rw [(dec_zero h).2]; simp [En.zero]⟩
/-- A word at the end of a way becomes none, or a leaf: what ways tell then. -/
theorem put_map (hw : Wf s r gone X) {p t v : Int} {d : Nat} (hp : InP p) (he : Ends s r p d t) (hv : stopW v (3 - d)) : ∀ q, InP q →
    if q / pow8 (3 - d) = p / pow8 (3 - d) then way (putAt s p t d v) r q = ⟨0, tabsD s r q (d + 1), ((3 - d : Nat) : Int), decE v (3 - d : Nat)⟩ ∧ way s r q = ⟨0, tabsD s r q (d + 1), ((3 - d : Nat) : Int), eOf s p t (3 - d)⟩
    else way (putAt s p t d v) r q = way s r q := by
  intro q hq
  obtain ⟨e, u, hu⟩ := hw.ends q hq
  obtain ⟨hu', hE⟩ := put_ends hw hp he.le he.tab he.no hv hq hu
  have htabs : tabsD (putAt s p t d v) r q (e + 1) = tabsD s r q (e + 1) := by
    unfold tabsD
    refine List.map_congr_left fun x hx => ?_
    rw [put_tab hw hp he.le he.tab he.no hv hq x (by have := List.mem_range.1 hx; have := hu.le; omega)]
  by_cases hpre : q / pow8 (3 - d) = p / pow8 (3 - d)
  · rw [if_pos hpre]
    obtain ⟨hs, hse⟩ := he.same hp hq hpre
    obtain ⟨rfl, rfl⟩ := hs.unique hu
    rw [if_pos ⟨rfl, hpre⟩] at hE
    rw [way_ends hq.1 hq.2 hu', way_ends hq.1 hq.2 hu, hE, hse, htabs]
    exact ⟨rfl, rfl⟩
  · rw [if_neg hpre]
    rw [if_neg (fun h => hpre h.2)] at hE
    rw [way_ends hq.1 hq.2 hu', way_ends hq.1 hq.2 hu, hE, htabs]
theorem mapAt_way {s s' : Ms} {r q : Int} (h : way s' r q = way s r q) : mapAt s' r q = mapAt s r q := by unfold mapAt; rw [h]
theorem find_zero {p : Int} (h : findC s r p = 0) : InP p := by
  apply Classical.byContradiction
  intro hn
  have := find_out (s := s) (r := r) hn
  unfold findC at h
  rw [this] at h
  cases h
/-- The mapping that is found, where it stands. -/
theorem Wf.found (hw : Wf s r gone X) {p : Int} (h : findC s r p = 0) : ∃ d t, Ends s r p d t ∧ (eOf s p t (3 - d)).leaf = true ∧ way s r p = ⟨0, tabsD s r p (d + 1), ((3 - d : Nat) : Int), eOf s p t (3 - d)⟩ ∧ mapAt s r p = some (findM s r p) ∧
    3 - d < 3 ∧ ∀ q, over (findM s r p) q = decide (q / pow8 (3 - d) = p / pow8 (3 - d)) := by
  have hp := find_zero h
  obtain ⟨d, t, he⟩ := hw.ends p hp
  have hwe := way_ends hp.1 hp.2 he
  have hf := hw.find hp
  rw [h] at hf
  have hm : mapAt s r p = some (findM s r p) := by
    cases hh : mapAt s r p with
    | none => rw [hh] at hf; cases hf.1
    | some m => rw [hf.2, hh]; rfl
  have hl : (eOf s p t (3 - d)).leaf = true := by
    rw [mapAt_ends hp he] at hm
    split at hm
    · assumption
    · cases hm
  have hfm : findM s r p = leafMap (eOf s p t (3 - d)) ((3 - d : Nat) : Int) p := by
    rw [mapAt_ends hp he, if_pos hl] at hm
    injection hm with hm
    exact hm.symm
  obtain ⟨h3, _, ho⟩ := he.map hp hl
  refine ⟨d, t, he, hl, hwe, hm, h3, fun q => ?_⟩
  rw [hfm]
  exact ho q
/-- Remove. -/
theorem rem_ok (hw : Wf s r gone (fun _ => False)) (hi : s.Inv) {p : Int} (hf : findC s r p = 0) :
    Wf (remS s r p) r ((remG s r p).reverse ++ gone) (fun _ => False) ∧ (remS s r p).Inv ∧ (remS s r p).n = s.n ∧ (remS s r p).frees = s.frees ∧ (∀ u, (remS s r p).tk u = s.tk u) ∧
    ∀ q, InP q → mapAt (remS s r p) r q = (if over (findM s r p) q = true then none else mapAt s r q) ∧ (over (findM s r p) q = false → mapAt s r q ≠ none → way (remS s r p) r q = way s r q) := by
  have hp := find_zero hf
  obtain ⟨d, t, he, hl, hwe, hm, h3, ho⟩ := hw.found hf
  have hle := he.le
  unfold remS remG
  rw [if_pos hf, if_pos hf, hwe]
  dsimp only
  rw [tabsD_len, Nat.add_sub_cancel]
  have hv := stop_zero (show 3 - d ≤ 3 by omega)
  have hP := hw.put hp he.le he.tab he.no hv
  have hX : Wf (putAt s p t d 0) r gone (fun u => u = t) := hP.mono (by
    rintro u (⟨a, _⟩ | a)
    · exact a.elim
    · exact a.2)
  have hmp := put_map hw hp he hv
  have hmap : ∀ q, InP q → mapAt (putAt s p t d 0) r q = (if over (findM s r p) q = true then none else mapAt s r q) ∧ (over (findM s r p) q = false → mapAt s r q ≠ none → way (putAt s p t d 0) r q = way s r q) := fun q hq => by
    have := hmp q hq
    rw [ho q]
    split at this
    · rename_i hpre
      rw [decide_eq_true hpre, if_pos rfl]
      refine ⟨?_, fun h => by cases h⟩
      unfold mapAt
      rw [this.1, (dec_zero (show 3 - d ≤ 3 by omega)).2]
      rfl
    · rename_i hpre
      rw [decide_eq_false hpre, if_neg (by simp)]
      exact ⟨mapAt_way this, fun _ _ => this⟩
  have hPi : (putAt s p t d 0).Inv := hi.setW _ _ (by omega)
  cases d with
  | zero =>
    have htr : t = r := by have := he.tab; injection this with this; exact this.symm
    have e0 : (tabsD s r p 1).getD 0 0 = t := tabsD_get he.tab (by omega)
    have es : cutR p (tabsD s r p (0 + 1)) 0 s = (putAt s p t 0 0, []) := by unfold cutR; rw [e0]
    rw [es]
    subst htr
    exact ⟨hX.no_root, hPi, rfl, rfl, fun _ => rfl, hmap⟩
  | succ k =>
    have e0 : (tabsD s r p (k + 1 + 1)).getD (k + 1) 0 = t := tabsD_get he.tab (by omega)
    have ez : s.setW ((tabsD s r p (k + 1 + 1)).getD (k + 1) 0).toNat (index p (3 - (k + 1) : Nat)).toNat 0 = putAt s p t (k + 1) 0 := by rw [e0]
    unfold cutR
    rw [ez, e0]
    by_cases hz : allZ (putAt s p t (k + 1) 0) t = true
    · rw [if_pos hz]
      have htab : ∀ j, j ≤ k + 1 → tabD (putAt s p t (k + 1) 0) r p j = tabD s r p j := fun j hj => put_tab hw hp he.le he.tab he.no hv hp j (by omega)
      obtain ⟨i1, i2, i3, i4, i5, i6⟩ := cutR_ok hp k (putAt s p t (k + 1) 0) r gone t (tabsD s r p (k + 1 + 1)) (by omega) hPi hX (by rw [htab _ (Nat.le_refl _)]; exact he.tab) hz (fun j hj => by
        rw [htab j (by omega)]
        obtain ⟨u, hu⟩ := tabD_some_mono he.tab (show j ≤ k + 1 by omega)
        rw [tabsD_get hu (by omega), hu]
        rfl)
      refine ⟨?_, i2, i3, i4, i5, fun q hq => ?_⟩
      · dsimp only
        rw [List.reverse_cons, List.append_assoc]
        exact i1
      · have a := i6 q hq
        have b := hmap q hq
        refine ⟨a.1.trans b.1, fun h1 h2 => ?_⟩
        have hb := b.2 h1 h2
        have : mapAt (putAt s p t (k + 1) 0) r q ≠ none := by rw [mapAt_way hb]; exact h2
        exact (a.2 this).trans hb
    · rw [if_neg hz]
      exact ⟨hX.no_full (by simpa using hz), hPi, rfl, rfl, fun _ => rfl, hmap⟩
/-- A leaf becomes another one. -/
theorem leaf_ok (hw : Wf s r gone (fun _ => False)) (hi : s.Inv) {p t : Int} {d : Nat} (hp : InP p) (he : Ends s r p d t) {e' : En} (hf : entFault e' (3 - d : Nat) = 0) (hl' : e'.leaf = true) :
    Wf (putAt s p t d (encW e' (3 - d : Nat))) r gone (fun _ => False) ∧ (putAt s p t d (encW e' (3 - d : Nat))).Inv ∧
    ∀ q, InP q → if q / pow8 (3 - d) = p / pow8 (3 - d) then way (putAt s p t d (encW e' (3 - d : Nat))) r q = ⟨0, tabsD s r q (d + 1), ((3 - d : Nat) : Int), e'⟩ ∧ way s r q = ⟨0, tabsD s r q (d + 1), ((3 - d : Nat) : Int), eOf s p t (3 - d)⟩
      else way (putAt s p t d (encW e' (3 - d : Nat))) r q = way s r q := by
  have ht : e'.there = true := by
    cases h : e'.there with
    | true => rfl
    | false => rw [entFault_not hf h] at hl'; cases hl'
  obtain ⟨k1, k2, k3⟩ := dec_enc hf
  have hv : stopW (encW e' (3 - d : Nat)) (3 - d) := ⟨k1, by rw [k2, hl']; simp⟩
  have hne : encW e' (3 - d : Nat) ≠ 0 := fun h => by rw [k3.1 h] at ht; cases ht
  have hrg : 0 ≤ encW e' (3 - d : Nat) ∧ encW e' (3 - d : Nat) < 18446744073709551616 := by
    have := wordE_ne (entOk_of hf ht)
    unfold encW
    rw [if_pos ⟨hf, ht⟩]
    omega
  refine ⟨(hw.put hp he.le he.tab he.no hv).mono ?_, hi.setW _ _ hrg, fun q hq => ?_⟩
  · rintro u (⟨a, _⟩ | a)
    · exact a
    · exact hne a.1
  · have := put_map hw hp he hv q hq
    rw [k2] at this
    exact this
theorem rights_ok {e : En} {l ri : Int} (hf : entFault e l = 0) (hl : e.leaf = true) (h0 : 0 ≤ ri) (h7 : ri ≤ 7) : entFault { e with rights := ri } l = 0 := by
  have ht : e.there = true := by
    cases h : e.there with
    | true => rfl
    | false => rw [entFault_not hf h] at hl; cases hl
  have hk := entOk_of hf ht
  exact entFault_ok ht ⟨hk.l0, hk.l4, h0, h7, hk.f0, hk.f1, hk.leaf, fun h => by rw [hl] at h; cases h⟩
theorem mark_ok {e : En} {l : Int} (a : Ac) (hf : entFault e l = 0) (hl : e.leaf = true) : entFault (markE e a) l = 0 ∧ (markE e a).leaf = true := by
  have ht : e.there = true := by
    cases h : e.there with
    | true => rfl
    | false => rw [entFault_not hf h] at hl; cases hl
  have hk := entOk_of hf ht
  exact ⟨entFault_ok ht ⟨hk.l0, hk.l4, hk.r0, hk.r7, hk.f0, hk.f1, hk.leaf, fun h => by have h' : e.leaf = false := h; rw [hl] at h'; cases h'⟩, hl⟩
/-- Protect. -/
theorem pr_ok (hw : Wf s r gone (fun _ => False)) (hi : s.Inv) {p ri : Int} (hf : prC s r p ri = 0) :
    Wf (prS s r p ri) r gone (fun _ => False) ∧ (prS s r p ri).Inv ∧ (prS s r p ri).n = s.n ∧ (prS s r p ri).frees = s.frees ∧ (∀ u, (prS s r p ri).tk u = s.tk u) ∧
    ∀ q, InP q → (over (findM s r p) q = true → mapAt s r q = some (findM s r p) ∧ mapAt (prS s r p ri) r q = some { findM s r p with rights := ri } ∧ (way (prS s r p ri) r q).e = { (way s r q).e with rights := ri }) ∧
      (over (findM s r p) q = false → way (prS s r p ri) r q = way s r q) := by
  have hr : 0 ≤ ri ∧ ri ≤ 7 := by
    unfold prC at hf
    split at hf
    · cases hf
    · omega
  have hf0 : findC s r p = 0 := by
    unfold prC at hf
    rw [if_neg (by omega)] at hf
    exact hf
  have hp := find_zero hf0
  obtain ⟨d, t, he, hl, hwe, hm, h3, ho⟩ := hw.found hf0
  have hef := (enc_dec he.dec).1
  have hf' : entFault { eOf s p t (3 - d) with rights := ri } (3 - d : Nat) = 0 := rights_ok hef hl hr.1 hr.2
  have es : prS s r p ri = putAt s p t d (encW { eOf s p t (3 - d) with rights := ri } (3 - d : Nat)) := by
    unfold prS
    rw [if_pos hf, hwe]
    dsimp only
    rw [tabsD_last he.tab]
  rw [es]
  obtain ⟨i1, i2, i3⟩ := leaf_ok hw hi hp he hf' hl
  refine ⟨i1, i2, rfl, rfl, fun _ => rfl, fun q hq => ⟨fun hov => ?_, fun hov => ?_⟩⟩
  · have := i3 q hq
    rw [ho q] at hov
    have hpre := of_decide_eq_true hov
    rw [if_pos hpre] at this
    have hmq : mapAt s r q = some (findM s r p) := Wf.overMap hw hp hq hm (by rw [ho q]; exact hov) hw
    refine ⟨hmq, ?_, ?_⟩
    · unfold mapAt at hmq ⊢
      rw [this.2] at hmq
      rw [this.1]
      dsimp only at hmq ⊢
      rw [if_pos hl] at hmq
      rw [if_pos hl]
      injection hmq with hmq
      rw [← hmq]
      have hef2 : entFault (eOf s p t (3 - d)) (3 - d : Nat) = 0 := hef
      rw [leafMap_eq hq hf' hl (span_pow h3), leafMap_eq hq hef2 hl (span_pow h3)]
    · rw [this.1, this.2]
  · have := i3 q hq
    rw [ho q] at hov
    rw [if_neg (of_decide_eq_false hov)] at this
    exact this
end
end Go.Proofs.Ytndhgomikpokpaa

namespace Go.Proofs.Ytndhgomikpokpaa
open Go.RowKit
section
variable {s : Ms} {r : Int} {gone : List Int} {X : Int → Prop}
theorem scan_code (s : Ms) (L : Nat) (t a : Int) : ∀ is : List Nat, (∀ i ∈ is, decC (wordV s t i) L = 0 ∧ ((decE (wordV s t i) L).there = true ∧ (decE (wordV s t i) L).leaf = false → (subV s L (decE (wordV s t i) L).frame (a * 8 + i)).code = 0)) → (scanV s L t a (subV s L) is).code = 0
  | [], _ => rfl
  | i :: is, h => by
    obtain ⟨h1, h2⟩ := h i (List.mem_cons_self ..)
    have ih := scan_code s L t a is fun j hj => h j (List.mem_cons_of_mem _ hj)
    unfold scanV
    rw [if_neg (by rw [h1]; simp)]
    dsimp only
    by_cases he : (decE (wordV s t i) L).there = true ∧ (decE (wordV s t i) L).leaf = false
    · rw [if_pos he, if_neg (by rw [h2 he]; simp)]
      exact ih
    · rw [if_neg he, if_neg (by simp)]
      exact ih
/-- What a look over all entries below a table comes to. -/
structure AllOk (s : Ms) (r : Int) (L : Nat) (t a : Int) : Prop where
  code : (eachV s L t a).code = 0
  maps : ∀ m ∈ mapsOf (eachV s L t a).vs, MapOk m ∧ a * pow8 (L + 1) ≤ m.page ∧ m.page + span m.size ≤ (a + 1) * pow8 (L + 1)
  up : (mapsOf (eachV s L t a).vs).Pairwise fun x y => x.page + span x.size ≤ y.page
  tabs : ∀ u, u ∈ tabsOf (eachV s L t a).vs ↔ ∃ q e, InP q ∧ q / pow8 (L + 1) = a ∧ 3 - L < e ∧ e ≤ 3 ∧ tabD s r q e = some u
  nd : (tabsOf (eachV s L t a).vs).Nodup
theorem pre_at {q a : Int} {L i : Nat} (hq : InP q) (hL : L ≤ 3) (h : q / pow8 (L + 1) = a) (hi : index q L = i) : q / pow8 L = a * 8 + i := by
  have h0 := pow8_pos L
  rw [pow8_succ, Int.mul_comm, ← Int.ediv_ediv_of_nonneg (by omega)] at h
  unfold index at hi
  rw [if_pos ⟨hq.1, hq.2, by omega, by omega⟩, Int.toNat_natCast] at hi
  omega
/-- What one entry gives. -/
structure OneOk (s : Ms) (r : Int) (L : Nat) (t a : Int) (i : Nat) : Prop where
  code : decC (wordV s t i) L = 0 ∧ ((decE (wordV s t i) L).there = true ∧ (decE (wordV s t i) L).leaf = false → (subV s L (decE (wordV s t i) L).frame (a * 8 + i)).code = 0)
  maps : ∀ m ∈ contr s L t a i, MapOk m ∧ (a * 8 + i) * pow8 L ≤ m.page ∧ m.page + span m.size ≤ (a * 8 + i + 1) * pow8 L
  up : (contr s L t a i).Pairwise fun x y => x.page + span x.size ≤ y.page
  tabs : ∀ u, u ∈ contrT s L t a i ↔ ∃ q e, InP q ∧ q / pow8 L = a * 8 + i ∧ 3 - L < e ∧ e ≤ 3 ∧ tabD s r q e = some u
  nd : (contrT s L t a i).Nodup
theorem leaf_mapOk {w : Int} {L : Nat} {p : Int} (hp : InP p) (hc : decC w L = 0) (hl : (decE w L).leaf = true) : MapOk (leafMap (decE w L) L p) ∧ leafMap (decE w L) L p = ⟨p / pow8 L * pow8 L, L, (decE w L).frame, (decE w L).rights⟩ ∧ L < 3 := by
  obtain ⟨ht, _, h3, _, hf⟩ := dec_leaf hc hl
  have h3' : L < 3 := by omega
  have hs := span_pow h3'
  have e1 := leafMap_eq hp hf hl hs
  have hk := entOk_of hf ht
  have hL := (hk.leaf hl).2
  rw [hs] at hL
  have k1 := hk.r0; have k2 := hk.r7; have k3 := hk.f0; have k4 := hk.f1
  have hp' : 0 ≤ p ∧ p < 4096 := hp
  refine ⟨?_, e1, h3'⟩
  rw [e1]
  refine mapOk_of ?_
  unfold check
  dsimp only
  rw [hs]
  have h8 := pow8_pos L
  have hd : L = 0 ∨ L = 1 ∨ L = 2 := by omega
  rw [if_neg (by omega), if_neg, if_neg]
  · rw [Int.mul_emod_left]; omega
  · generalize (decE w L).rights = ri at *
    generalize (decE w L).frame = fr at *
    clear e1 ht hl hf hk hL hs h8 hc
    rcases hd with h | h | h <;> rw [h] <;> simp only [pow8] <;> omega
theorem one_ok (hw : Wf s r gone X) {L : Nat} (hL : L ≤ 3) {p t a : Int} (hp : InP p) (ht : tabD s r p (3 - L) = some t) (ha : p / pow8 (L + 1) = a) (i : Nat) (hi : i < 8)
    (ih : ∀ K, L = K + 1 → ∀ {q u : Int}, InP q → tabD s r q (3 - K) = some u → AllOk s r K u (q / pow8 (K + 1))) : OneOk s r L t a i := by
  obtain ⟨q, hq, hpre, hix, hmod⟩ := page_at hp hL i hi
  rw [ha] at hpre
  have hq8 := pre_at hq hL hpre hix
  have e33 : 3 - (3 - L) = L := by omega
  have hqt : tabD s r q (3 - L) = some t := by
    rw [← ht]
    refine tabD_prefix s r hq hp (3 - L) (by omega) ?_
    rw [show 4 - (3 - L) = L + 1 by omega, hpre, ha]
  have hdec : decC (wordV s t i) L = 0 := by
    have := hw.dec hq (show 3 - L ≤ 3 by omega) hqt i hi
    rw [e33] at this
    exact this
  have h0 := pow8_pos L
  have hqe : q = (a * 8 + i) * pow8 L := by
    have := Int.mul_ediv_add_emod q (pow8 L)
    rw [hq8, hmod] at this
    rw [Int.mul_comm]
    omega
  by_cases hl : (decE (wordV s t i) L).leaf = true
  · obtain ⟨m1, m2, h3⟩ := leaf_mapOk hq hdec hl
    have hc : contr s L t a i = [leafMap (decE (wordV s t i) L) L q] := by
      unfold contr
      dsimp only
      rw [if_pos hl, hqe]
    have hT : contrT s L t a i = [] := by
      unfold contrT
      dsimp only
      rw [if_neg (by rw [hl]; simp)]
    refine ⟨⟨hdec, fun h => by rw [hl] at h; cases h.2⟩, fun m hm => ?_, ?_, fun u => ?_, by rw [hT]; exact List.nodup_nil⟩
    · rw [hc, List.mem_singleton] at hm
      subst hm
      refine ⟨m1, ?_, ?_⟩
      · rw [m2, hq8]; exact Int.le_refl _
      · rw [m2, hq8]
        dsimp only
        rw [span_pow h3]
        have : (a * 8 + (i : Int) + 1) * pow8 L = (a * 8 + i) * pow8 L + pow8 L := by rw [Int.add_mul (a * 8 + i) 1, Int.one_mul]
        omega
    · rw [hc]; exact List.pairwise_singleton _ _
    · rw [hT]
      constructor
      · intro h; cases h
      · rintro ⟨x, e, hx, hx8, h1, h2, h3⟩
        exfalso
        have hxt : tabD s r x (3 - L) = some t := by
          rw [← hqt]
          refine tabD_prefix s r hx hq (3 - L) (by omega) ?_
          rw [show 4 - (3 - L) = L + 1 by omega]
          exact div_up (by omega) (hx8.trans hq8.symm)
        have hxi : index x L = i := by rw [index_div hx hq (hx8.trans hq8.symm)]; exact hix
        have hg : goB s x t (3 - (3 - L)) = false := by
          rw [e33]
          unfold goB eOf
          rw [hxi, hl]
          simp
        rw [tabD_none_mono (tabD_none hxt hg) e (by omega)] at h3
        cases h3
  · have hl' : (decE (wordV s t i) L).leaf = false := by simpa using hl
    by_cases hth : (decE (wordV s t i) L).there = true
    · -- a table
      have hg : goB s q t L = true := by
        refine goB_iff.2 ⟨(hw.at_ hq (show 3 - L ≤ 3 by omega) hqt).1, by rw [hix]; exact hdec, ?_, ?_⟩
        · unfold eOf; rw [hix]; exact hth
        · unfold eOf; rw [hix]; exact hl'
      cases L with
      | zero =>
        exfalso
        rcases dec0_leaf hdec with h | h
        · have h' : (decE (wordV s t i) (0 : Nat)).there = false := h
          rw [h'] at hth; cases hth
        · exact hl h
      | succ K =>
        have hv : tabD s r q (3 - K) = some (decE (wordV s t i) (K + 1 : Nat)).frame := by
          rw [show 3 - K = 3 - (K + 1) + 1 by omega]
          refine tabD_succ.2 ⟨t, hqt, by rw [e33]; exact hg, ?_⟩
          rw [e33]
          unfold eOf
          rw [hix]
        have hA := ih K rfl hq hv
        rw [hq8] at hA
        have hc : contr s (K + 1) t a i = mapsOf (eachV s K (decE (wordV s t i) (K + 1 : Nat)).frame (a * 8 + i)).vs := by
          unfold contr
          dsimp only
          rw [if_neg hl, if_pos hth]
          rfl
        have hT : contrT s (K + 1) t a i = (decE (wordV s t i) (K + 1 : Nat)).frame :: tabsOf (eachV s K (decE (wordV s t i) (K + 1 : Nat)).frame (a * 8 + i)).vs := by
          unfold contrT
          dsimp only
          rw [if_pos ⟨hth, hl'⟩]
          rfl
        refine ⟨⟨hdec, fun _ => hA.code⟩, fun m hm => ?_, by rw [hc]; exact hA.up, fun u => ?_, ?_⟩
        · rw [hc] at hm
          exact hA.maps m hm
        · rw [hT, List.mem_cons, hA.tabs u]
          constructor
          · rintro (rfl | ⟨x, e, hx, hx8, h1, h2, h3⟩)
            · exact ⟨q, 3 - K, hq, hq8, by omega, by omega, hv⟩
            · exact ⟨x, e, hx, hx8, by omega, h2, h3⟩
          · rintro ⟨x, e, hx, hx8, h1, h2, h3⟩
            by_cases he : e = 3 - K
            · subst he
              have : tabD s r x (3 - K) = tabD s r q (3 - K) := by
                refine tabD_prefix s r hx hq (3 - K) (by omega) ?_
                rw [show 4 - (3 - K) = K + 1 by omega]
                exact hx8.trans hq8.symm
              rw [h3, hv] at this
              injection this with this
              exact .inl this
            · exact .inr ⟨x, e, hx, hx8, by omega, h2, h3⟩
        · rw [hT, List.nodup_cons]
          refine ⟨fun hm => ?_, hA.nd⟩
          obtain ⟨x, e, hx, hx8, h1, h2, h3⟩ := (hA.tabs _).1 hm
          have := (hw.inj x q e (3 - K) _ hx hq h2 (by omega) h3 hv).1
          omega
    · -- nothing
      have hc : contr s L t a i = [] := by
        unfold contr
        dsimp only
        rw [if_neg hl, if_neg hth]
      have hT : contrT s L t a i = [] := by
        unfold contrT
        dsimp only
        rw [if_neg (fun h => hth h.1)]
      refine ⟨⟨hdec, fun h => absurd h.1 hth⟩, fun m hm => (by rw [hc] at hm; cases hm), (by rw [hc]; exact List.Pairwise.nil), fun u => ?_, (by rw [hT]; exact List.nodup_nil)⟩
      rw [hT]
      constructor
      · intro h; cases h
      · rintro ⟨x, e, hx, hx8, h1, h2, h3⟩
        exfalso
        have hxt : tabD s r x (3 - L) = some t := by
          rw [← hqt]
          refine tabD_prefix s r hx hq (3 - L) (by omega) ?_
          rw [show 4 - (3 - L) = L + 1 by omega]
          exact div_up (by omega) (hx8.trans hq8.symm)
        have hxi : index x L = i := by rw [index_div hx hq (hx8.trans hq8.symm)]; exact hix
        have hth' : (decE (wordV s t i) L).there = false := by simpa using hth
        have hg : goB s x t (3 - (3 - L)) = false := by
          rw [e33]
          unfold goB eOf
          rw [hxi, hth']
          simp
        rw [tabD_none_mono (tabD_none hxt hg) e (by omega)] at h3
        cases h3
theorem all_step (hw : Wf s r gone X) {L : Nat} (hL : L ≤ 3) {p t : Int} (hp : InP p) (ht : tabD s r p (3 - L) = some t)
    (ih : ∀ K, L = K + 1 → ∀ {q u : Int}, InP q → tabD s r q (3 - K) = some u → AllOk s r K u (q / pow8 (K + 1))) : AllOk s r L t (p / pow8 (L + 1)) := by
  have hone := fun i hi => one_ok hw hL hp ht rfl i hi ih
  generalize hpa : p / pow8 (L + 1) = a at *
  have hhas := (hw.at_ hp (show 3 - L ≤ 3 by omega) ht).1
  have hcode : (scanV s L t a (subV s L) (List.range 8)).code = 0 := scan_code s L t a _ fun i hi => (hone i (List.mem_range.1 hi)).code
  obtain ⟨_, hm, hT⟩ := scan_ok s L t a (List.range 8) hcode
  have ee : eachV s L t a = scanV s L t a (subV s L) (List.range 8) := by rw [eachV_eq, hhas]; rfl
  have h8 := pow8_pos L
  have hexp : a * pow8 (L + 1) = a * 8 * pow8 L := by rw [pow8_succ, Int.mul_assoc]
  have hexp1 : (a + 1) * pow8 (L + 1) = a * 8 * pow8 L + 8 * pow8 L := by rw [Int.add_mul, Int.one_mul, hexp, pow8_succ]
  have hrg : ∀ i : Nat, (a * 8 + (i : Int)) * pow8 L = a * 8 * pow8 L + i * pow8 L := fun i => Int.add_mul _ _ _
  have hrg1 : ∀ i : Nat, (a * 8 + (i : Int) + 1) * pow8 L = a * 8 * pow8 L + i * pow8 L + pow8 L := fun i => by rw [Int.add_mul, Int.add_mul, Int.one_mul]
  have hmul : ∀ i j : Nat, i ≤ j → (i : Int) * pow8 L ≤ j * pow8 L := fun i j h => Int.mul_le_mul_of_nonneg_right (by omega) (by omega)
  refine ⟨by rw [ee]; exact hcode, fun m hmm => ?_, ?_, fun u => ?_, ?_⟩
  · rw [ee, hm] at hmm
    obtain ⟨i, hi, hmi⟩ := List.mem_flatMap.1 hmm
    have hi8 := List.mem_range.1 hi
    obtain ⟨c1, c2, c3⟩ := (hone i hi8).maps m hmi
    rw [hrg] at c2
    rw [hrg1] at c3
    have a1 := hmul 0 i (by omega)
    have a2 := hmul (i + 1) 8 (by omega)
    refine ⟨c1, by rw [hexp]; simp at a1; omega, ?_⟩
    rw [hexp1]
    have e2 : ((i + 1 : Nat) : Int) * pow8 L = i * pow8 L + pow8 L := by rw [Int.natCast_add, Int.add_mul]; simp
    have e3 : ((8 : Nat) : Int) * pow8 L = 8 * pow8 L := rfl
    omega
  · rw [ee, hm, List.pairwise_flatMap]
    refine ⟨fun i hi => (hone i (List.mem_range.1 hi)).up, ?_⟩
    rw [List.pairwise_iff_getElem]
    intro i j hi hj hij x hx y hy
    simp only [List.length_range] at hi hj
    simp only [List.getElem_range] at hx hy
    obtain ⟨_, _, c3⟩ := (hone i hi).maps x hx
    obtain ⟨_, d2, _⟩ := (hone j hj).maps y hy
    rw [hrg1] at c3
    rw [hrg] at d2
    have a2 := hmul (i + 1) j (by omega)
    have e2 : ((i + 1 : Nat) : Int) * pow8 L = i * pow8 L + pow8 L := by rw [Int.natCast_add, Int.add_mul]; simp
    omega
  · rw [ee, hT, List.mem_flatMap]
    constructor
    · rintro ⟨i, hi, hu⟩
      obtain ⟨q, e, hq, hq8, h1, h2, h3⟩ := ((hone i (List.mem_range.1 hi)).tabs u).1 hu
      refine ⟨q, e, hq, ?_, h1, h2, h3⟩
      rw [pow8_succ, Int.mul_comm, ← Int.ediv_ediv_of_nonneg (by omega), hq8]
      have := List.mem_range.1 hi
      omega
    · rintro ⟨q, e, hq, hq8, h1, h2, h3⟩
      have hi := index_range hq hL
      refine ⟨(index q L).toNat, List.mem_range.2 (by omega), ((hone _ (by omega)).tabs u).2 ⟨q, e, hq, ?_, h1, h2, h3⟩⟩
      exact pre_at hq hL hq8 (by omega)
  · rw [ee, hT]
    unfold List.Nodup
    rw [List.pairwise_flatMap]
    refine ⟨fun i hi => (hone i (List.mem_range.1 hi)).nd, ?_⟩
    rw [List.pairwise_iff_getElem]
    intro i j hi hj hij x hx y hy hxy
    simp only [List.length_range] at hi hj
    simp only [List.getElem_range] at hx hy
    subst hxy
    obtain ⟨q, e, hq, hq8, h1, h2, h3⟩ := ((hone i hi).tabs x).1 hx
    obtain ⟨q', e', hq', hq8', h1', h2', h3'⟩ := ((hone j hj).tabs x).1 hy
    obtain ⟨rfl, hpre⟩ := hw.inj q q' e e' x hq hq' h2 h2' h3 h3'
    have := div_up (show 4 - e ≤ L by omega) hpre
    omega
theorem all_ok (hw : Wf s r gone X) : ∀ L, L ≤ 3 → ∀ {p t : Int}, InP p → tabD s r p (3 - L) = some t → AllOk s r L t (p / pow8 (L + 1)) := by
  intro L
  induction L with
  | zero => intro hL p t hp ht; exact all_step hw hL hp ht fun K hK => by omega
  | succ L ih =>
    intro hL p t hp ht
    refine all_step hw hL hp ht fun K hK => ?_
    obtain rfl : L = K := by omega
    exact ih (by omega)
/-- All that a root's tables map. -/
def allM (s : Ms) (r : Int) : List Mp := mapsOf (eachV s 3 r 0).vs
def allT (s : Ms) (r : Int) : List Int := r :: tabsOf (eachV s 3 r 0).vs
theorem list_link (hw : Wf s r gone X) : (eachV s 3 r 0).code = 0 ∧ Lk s r (allM s r) ∧ (allT s r).Nodup ∧ ∀ t, t ∈ allT s r ↔ InT s r t := by
  have hA : AllOk s r 3 r ((0 : Int) / pow8 (3 + 1)) := all_ok hw 3 (by omega) (show InP 0 from ⟨by omega, by omega⟩) rfl
  have e0 : (0 : Int) / pow8 (3 + 1) = 0 := by decide
  rw [e0] at hA
  have htop : ∀ q, InP q → q / pow8 (3 + 1) = 0 := fun q hq => by
    have h4 : pow8 (3 + 1) = 4096 := rfl
    rw [h4]
    have := hq.1; have := hq.2
    omega
  refine ⟨hA.code, ⟨⟨fun m hm => (hA.maps m hm).1, hA.up⟩, fun q hq => ?_⟩, ?_, fun t => ?_⟩
  · have hl := (list_way s q hq.1 hq.2 3 (by omega) r 0 [] hA.code (by omega) (by decide)).2 (htop q hq)
    have hwy : way s r q = wayA s q 3 r [] := by
      unfold way
      rw [if_pos (by unfold hasB; rw [decide_eq_true hq.1, decide_eq_true hq.2]; rfl)]
    show (mapsOf (eachV s 3 r 0).vs).find? (fun m => over m q) = mapAt s r q
    rw [← List.head?_filter, hl.2.1, ← hwy]
    unfold mapAt
    split <;> rfl
  · unfold allT
    rw [List.nodup_cons]
    refine ⟨fun hm => ?_, hA.nd⟩
    obtain ⟨q, e, hq, _, h1, h2, h3⟩ := (hA.tabs r).1 hm
    have := (hw.inj q q e 0 r hq hq h2 (by omega) h3 rfl).1
    omega
  · unfold allT
    rw [List.mem_cons, hA.tabs t]
    constructor
    · rintro (rfl | ⟨q, e, hq, _, h1, h2, h3⟩)
      · exact ⟨0, 0, ⟨by omega, by omega⟩, by omega, rfl⟩
      · exact ⟨q, e, hq, h2, h3⟩
    · rintro ⟨q, e, hq, h2, h3⟩
      cases e with
      | zero => injection h3 with h3; exact .inl h3.symm
      | succ e => exact .inr ⟨q, e + 1, hq, htop q hq, by omega, h2, h3⟩
end
end Go.Proofs.Ytndhgomikpokpaa
