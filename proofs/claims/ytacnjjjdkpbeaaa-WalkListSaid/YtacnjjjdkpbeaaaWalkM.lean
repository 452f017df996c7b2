/- Ways through tables as plain Lean, with no program in sight. -/
import Derived.Test.YtacnjjjdkpbeaaaMs
import Derived.Test.YtacnjjjdkpbeaaaEnt
namespace Go.Proofs.Ytacnjjjdkpbeaaa
open Go.RowKit

/-- A word of a table. -/
def wordV (s : Ms) (t i : Int) : Int := s.wd t.toNat i.toNat
/-- What a look for the way to a page comes to. -/
structure Wy where
  code : Int
  tabs : List Int
  lev : Int
  e : En
def Wy.err (c : Int) : Wy := ⟨c, [], 0, En.zero⟩
/-- One table on the way. -/
def wayStep (s : Ms) (p : Int) (L : Nat) (t : Int) (acc : List Int) (next : Int → Wy) : Wy :=
  if s.has t = false then .err 12
  else if decC (wordV s t (index p L)) L ≠ 0 then .err (decC (wordV s t (index p L)) L)
  else if (decE (wordV s t (index p L)) L).there = false ∨ (decE (wordV s t (index p L)) L).leaf = true then ⟨0, acc ++ [t], L, decE (wordV s t (index p L)) L⟩
  else next (decE (wordV s t (index p L)) L).frame
def wayA (s : Ms) (p : Int) : Nat → Int → List Int → Wy
  | 0, t, acc => wayStep s p 0 t acc fun _ => .err 7
  | L + 1, t, acc => wayStep s p (L + 1) t acc fun f => wayA s p L f (acc ++ [t])
/-- The way to a page, from a root on. -/
def way (s : Ms) (root p : Int) : Wy := if hasB p = true then wayA s p 3 root [] else .err 1

theorem dec0_leaf {w : Int} (_ : decC w 0 = 0) : (decE w 0).there = false ∨ (decE w 0).leaf = true := by
  unfold decE
  split
  · right; rfl
  · left; rfl
theorem wayA_free {s : Ms} {p : Int} {L : Nat} {t : Int} {acc : List Int} (h : s.has t = false) : wayA s p L t acc = .err 12 := by
  cases L <;> (unfold wayA wayStep; rw [if_pos h])
theorem wayA_bad {s : Ms} {p : Int} {L : Nat} {t : Int} {acc : List Int} (h : s.has t = true) (hc : decC (wordV s t (index p L)) L ≠ 0) : wayA s p L t acc = .err (decC (wordV s t (index p L)) L) := by
  cases L <;> (unfold wayA wayStep; rw [if_neg (by rw [h]; simp), if_pos hc])
theorem wayA_end {s : Ms} {p : Int} {L : Nat} {t : Int} {acc : List Int} (h : s.has t = true) (hc : decC (wordV s t (index p L)) L = 0)
    (he : (decE (wordV s t (index p L)) L).there = false ∨ (decE (wordV s t (index p L)) L).leaf = true) : wayA s p L t acc = ⟨0, acc ++ [t], L, decE (wordV s t (index p L)) L⟩ := by
  cases L <;> (unfold wayA wayStep; rw [if_neg (by rw [h]; simp), if_neg (by rw [hc]; simp), if_pos he])
theorem wayA_on {s : Ms} {p : Int} {L : Nat} {t : Int} {acc : List Int} (h : s.has t = true) (hc : decC (wordV s t (index p L)) L = 0)
    (he : ¬ ((decE (wordV s t (index p L)) L).there = false ∨ (decE (wordV s t (index p L)) L).leaf = true)) : ∃ K, L = K + 1 ∧ wayA s p L t acc = wayA s p K (decE (wordV s t (index p L)) L).frame (acc ++ [t]) := by
  cases L with
  | zero => exact absurd (dec0_leaf hc) he
  | succ K =>
    refine ⟨K, rfl, ?_⟩
    conv => lhs; unfold wayA wayStep
    rw [if_neg (by rw [h]; simp), if_neg (by rw [hc]; simp), if_neg he]
theorem wayA_len (s : Ms) (p : Int) : ∀ (L : Nat) (t : Int) (acc : List Int), (wayA s p L t acc).code = 0 → 0 ≤ (wayA s p L t acc).lev ∧ (wayA s p L t acc).lev ≤ L ∧ (wayA s p L t acc).tabs.length = acc.length + 1 + (L - (wayA s p L t acc).lev.toNat) := by
  intro L
  induction L with
  | zero =>
    intro t acc hc
    cases h : s.has t with
    | false => rw [wayA_free h] at hc; cases hc
    | true =>
      by_cases hd : decC (wordV s t (index p (0 : Nat))) (0 : Nat) = 0
      · rw [wayA_end h hd (dec0_leaf hd)]
        simp
      · rw [wayA_bad h hd] at hc
        exact absurd hc hd
  | succ L ih =>
    intro t acc hc
    cases h : s.has t with
    | false => rw [wayA_free h] at hc; cases hc
    | true =>
      by_cases hd : decC (wordV s t (index p (L + 1 : Nat))) (L + 1 : Nat) = 0
      · by_cases he : (decE (wordV s t (index p (L + 1 : Nat))) (L + 1 : Nat)).there = false ∨ (decE (wordV s t (index p (L + 1 : Nat))) (L + 1 : Nat)).leaf = true
        · rw [wayA_end h hd he]
          simp
          omega
        · obtain ⟨K, hK, e⟩ := wayA_on (acc := acc) h hd he
          obtain rfl : L = K := by omega
          rw [e] at hc ⊢
          obtain ⟨a, b, c⟩ := ih _ _ hc
          rw [List.length_append, List.length_singleton] at c
          refine ⟨a, by omega, by omega⟩
      · rw [wayA_bad h hd] at hc
        exact absurd hc hd

/-- A visit of an entry: its table, level, the way to it, and it. -/
structure Vis where
  t : Int
  lev : Int
  at_ : Int
  e : En
structure Vs where
  code : Int
  vs : List Vis
/-- The entries of a table from the i-th on, and all below them. -/
def scanV (s : Ms) (L : Nat) (t a : Int) (sub : Int → Int → Vs) : List Nat → Vs
  | [] => ⟨0, []⟩
  | i :: is =>
    if decC (wordV s t i) L ≠ 0 then ⟨decC (wordV s t i) L, []⟩
    else
      let e := decE (wordV s t i) L
      let r : Vs := if e.there = true ∧ e.leaf = false then sub e.frame (a * 8 + i) else ⟨0, []⟩
      if r.code ≠ 0 then ⟨r.code, ⟨t, L, a * 8 + i, e⟩ :: r.vs⟩
      else ⟨(scanV s L t a sub is).code, ⟨t, L, a * 8 + i, e⟩ :: (r.vs ++ (scanV s L t a sub is).vs)⟩
/-- walk's each. -/
def eachV (s : Ms) : Nat → Int → Int → Vs
  | 0, t, a => if s.has t = false then ⟨12, []⟩ else scanV s 0 t a (fun _ _ => ⟨7, []⟩) (List.range 8)
  | L + 1, t, a => if s.has t = false then ⟨12, []⟩ else scanV s (L + 1) t a (eachV s L) (List.range 8)
/-- What goes on below a table of a level. -/
def subV (s : Ms) : Nat → Int → Int → Vs
  | 0 => fun _ _ => ⟨7, []⟩
  | L + 1 => eachV s L
theorem eachV_eq (s : Ms) (L : Nat) (t a : Int) : eachV s L t a = if s.has t = false then ⟨12, []⟩ else scanV s L t a (subV s L) (List.range 8) := by
  cases L <;> rfl
def mapsOf (vs : List Vis) : List Mp := vs.filterMap fun v => if v.e.leaf = true then some (leafMap v.e v.lev (v.at_ * pow8 v.lev.toNat)) else none
def tabsOf (vs : List Vis) : List Int := vs.filterMap fun v => if v.e.there = true ∧ v.e.leaf = false then some v.e.frame else none
/-- How many entries may be visited. -/
def most : Nat → Nat | 0 => 8 | L + 1 => 8 + 8 * most L
theorem scanV_len (s : Ms) (L : Nat) (t a : Int) (sub : Int → Int → Vs) (m : Nat) (h : ∀ f p, (sub f p).vs.length ≤ m) : ∀ is : List Nat, (scanV s L t a sub is).vs.length ≤ is.length * (1 + m)
  | [] => by simp [scanV]
  | i :: is => by
    have ih := scanV_len s L t a sub m h is
    have h0 : (is.length + 1) * (1 + m) = is.length * (1 + m) + (1 + m) := by rw [Nat.add_mul, Nat.one_mul]
    unfold scanV
    rw [List.length_cons, h0]
    split
    · simp
    · have hr : (if (decE (wordV s t i) L).there = true ∧ (decE (wordV s t i) L).leaf = false then sub (decE (wordV s t i) L).frame (a * 8 + i) else (⟨0, []⟩ : Vs)).vs.length ≤ m := by
        split
        · exact h _ _
        · simp
      dsimp only
      generalize (if (decE (wordV s t i) L).there = true ∧ (decE (wordV s t i) L).leaf = false then sub (decE (wordV s t i) L).frame (a * 8 + i) else (⟨0, []⟩ : Vs)) = r at *
      split
      · simp only [List.length_cons]; omega
      · simp only [List.length_cons, List.length_append]; omega
theorem eachV_len (s : Ms) : ∀ (L : Nat) (t a : Int), (eachV s L t a).vs.length ≤ most L
  | 0, t, a => by
    rw [eachV_eq]
    split
    · simp
    · have := scanV_len s 0 t a (subV s 0) 0 (fun _ _ => Nat.le_refl _) (List.range 8)
      simpa [most] using this
  | L + 1, t, a => by
    rw [eachV_eq]
    split
    · simp
    · have := scanV_len s (L + 1) t a (subV s (L + 1)) (most L) (fun f p => eachV_len s L f p) (List.range 8)
      simp only [List.length_range] at this
      unfold most
      omega
end Go.Proofs.Ytacnjjjdkpbeaaa
