/- A memory of frames as plain Lean: which are in use, their words, and in which order free ones go. -/
import Derived.Test.YtndhgomikpokpaaTab
namespace Go.Proofs.Ytndhgomikpokpaa
open Go.RowKit

structure Ms where
  n : Nat
  tk : Nat → Bool
  wd : Nat → Nat → Int
  next : Nat
  back : List Nat
/-- A list, by its last element. -/
theorem dl {l : List Nat} {x : Nat} (h : l.getLast? = some x) : l.dropLast ++ [x] = l := by
  obtain ⟨ys, rfl⟩ := List.getLast?_eq_some_iff.1 h
  simp
namespace Ms
def new (n : Nat) : Ms := ⟨n, fun _ => false, fun _ _ => 0, 0, []⟩
def frees (s : Ms) : List Nat := (List.range' s.next (s.n - s.next)).reverse ++ s.back
def top (s : Ms) : Option Nat := match s.back.getLast? with | some k => some k | none => if s.next < s.n then some s.next else none
def take (s : Ms) (k : Nat) : Ms := { n := s.n, tk := fput s.tk k true, wd := fun a b => if a = k then 0 else s.wd a b, next := if s.back = [] then s.next + 1 else s.next, back := s.back.dropLast }
def give (s : Ms) (k : Nat) : Ms := { s with tk := fput s.tk k false, back := s.back ++ [k] }
def setW (s : Ms) (k i : Nat) (v : Int) : Ms := { s with wd := fun a b => if a = k ∧ b = i then v else s.wd a b }
/-- Is a frame in use? -/
def has (s : Ms) (k : Int) : Bool := decide (0 ≤ k) && (decide (k < s.n) && s.tk k.toNat)
/-- Is there such a word? -/
def hasW (s : Ms) (k i : Int) : Bool := s.has k && (decide (0 ≤ i) && decide (i < 8))

structure Inv (s : Ms) : Prop where
  le : s.next ≤ s.n
  tkl : ∀ k, s.tk k = true → k < s.next
  nd : s.back.Nodup
  mem : ∀ k, k ∈ s.back ↔ k < s.next ∧ s.tk k = false
  wok : ∀ k i, 0 ≤ s.wd k i ∧ s.wd k i < 18446744073709551616

theorem frees_new (n : Nat) : (new n).frees = (List.range' 0 n).reverse := by simp [new, frees]
theorem frees_len (s : Ms) : s.frees.length = s.n - s.next + s.back.length := by simp [frees]
theorem frees_give (s : Ms) (k : Nat) : (s.give k).frees = s.frees ++ [k] := by simp [give, frees]
theorem frees_setW (s : Ms) (k i : Nat) (v : Int) : (s.setW k i v).frees = s.frees := rfl
theorem range'_rev (a m : Nat) : (List.range' a (m + 1)).reverse = (List.range' (a + 1) m).reverse ++ [a] := by
  rw [List.range'_succ, List.reverse_cons]
theorem frees_top (s : Ms) : s.frees.getLast? = s.top := by
  unfold frees top
  cases h : s.back.getLast? with
  | some k =>
    have hne : s.back ≠ [] := by rintro e; rw [e] at h; cases h
    rw [List.getLast?_append, h]
    rfl
  | none =>
    have he : s.back = [] := by simpa using h
    rw [he, List.append_nil]
    by_cases hlt : s.next < s.n
    · obtain ⟨m, hm⟩ : ∃ m, s.n - s.next = m + 1 := ⟨s.n - s.next - 1, by omega⟩
      rw [hm, range'_rev]
      simp [hlt]
    · have : s.n - s.next = 0 := by omega
      rw [this]
      simp [hlt]
theorem frees_take (s : Ms) (k : Nat) (h : s.top = some k) : (s.take k).frees ++ [k] = s.frees := by
  unfold frees take
  unfold top at h
  cases hb : s.back.getLast? with
  | some k' =>
    rw [hb] at h
    obtain rfl : k' = k := by simpa using h
    have hne : s.back ≠ [] := by rintro e; rw [e] at hb; cases hb
    simp only [hne, if_false]
    rw [List.append_assoc, dl hb]
  | none =>
    have he : s.back = [] := by simpa using hb
    rw [hb] at h
    simp only at h
    split at h
    · rename_i hlt
      obtain rfl : s.next = k := by simpa using h
      rw [he]
      obtain ⟨m, hm⟩ : ∃ m, s.n - s.next = m + 1 := ⟨s.n - s.next - 1, by omega⟩
      rw [hm, range'_rev]
      have e2 : s.n - (s.next + 1) = m := by omega
      simp [e2]
    · cases h

theorem top_lt {s : Ms} (i : s.Inv) {k : Nat} (h : s.top = some k) : k < s.n ∧ s.tk k = false := by
  unfold top at h
  cases hb : s.back.getLast? with
  | some k' =>
    rw [hb] at h
    obtain rfl : k' = k := by simpa using h
    have := (i.mem k').1 (List.mem_of_getLast? hb)
    have := i.le
    refine ⟨by omega, ?_⟩
    exact ((i.mem k').1 (List.mem_of_getLast? hb)).2
  | none =>
    rw [hb] at h
    simp only at h
    split at h
    · obtain rfl : s.next = k := by simpa using h
      refine ⟨by assumption, ?_⟩
      cases ht : s.tk s.next with
      | true => have := i.tkl _ ht; omega
      | false => rfl
    · cases h
theorem has_iff {s : Ms} {k : Int} : s.has k = true ↔ 0 ≤ k ∧ k < s.n ∧ s.tk k.toNat = true := by
  unfold has
  simp
theorem has_nat {s : Ms} (i : s.Inv) (k : Nat) : s.has k = s.tk k := by
  unfold has
  by_cases h : k < s.n
  · have h' : (k : Int) < s.n := by omega
    simp [h]
  · cases ht : s.tk k with
    | false => simp [ht]
    | true => have := i.tkl _ ht; have := i.le; omega

theorem Inv.new (n : Nat) : (Ms.new n).Inv := ⟨Nat.zero_le _, fun k h => by simp [Ms.new] at h, List.nodup_nil, fun k => by simp [Ms.new], fun k i => by simp [Ms.new]⟩
theorem Inv.setW {s : Ms} (i : s.Inv) (k j : Nat) {v : Int} (hv : 0 ≤ v ∧ v < 18446744073709551616) : (s.setW k j v).Inv :=
  ⟨i.le, i.tkl, i.nd, i.mem, fun a b => by
    unfold Ms.setW
    dsimp only
    split
    · exact hv
    · exact i.wok a b⟩
theorem Inv.give {s : Ms} (i : s.Inv) {k : Nat} (hk : s.tk k = true) : (s.give k).Inv := by
  have hlt := i.tkl k hk
  have hn : k ∉ s.back := fun h => by rw [((i.mem k).1 h).2] at hk; cases hk
  refine ⟨i.le, fun a h => ?_, ?_, fun a => ?_, i.wok⟩
  · by_cases e : a = k
    · rw [e]; exact hlt
    · exact i.tkl a (by simpa [Ms.give, fput, e] using h)
  · show (s.back ++ [k]).Nodup
    rw [List.nodup_append]
    refine ⟨i.nd, by simp, fun a ha b hb => ?_⟩
    simp at hb
    rintro rfl
    exact hn (hb ▸ ha)
  · show a ∈ s.back ++ [k] ↔ a < s.next ∧ fput s.tk k false a = false
    by_cases e : a = k
    · subst e
      simp [fput, hlt]
    · simp [fput, e, i.mem a]
theorem dropLast_mem {l : List Nat} {x : Nat} (hx : l.getLast? = some x) (nd : l.Nodup) (a : Nat) : a ∈ l.dropLast ↔ a ∈ l ∧ a ≠ x := by
  have e := dl hx
  have nd' := nd
  rw [← e] at nd'
  rw [List.nodup_append] at nd'
  obtain ⟨_, _, n3⟩ := nd'
  constructor
  · intro h
    refine ⟨(List.dropLast_sublist l).subset h, fun he => ?_⟩
    exact n3 a h x (by simp) he
  · rintro ⟨h, hne⟩
    rw [← e] at h
    simpa [hne] using h
theorem Inv.take {s : Ms} (i : s.Inv) {k : Nat} (hk : s.top = some k) : (s.take k).Inv := by
  have ht := top_lt i hk
  unfold top at hk
  have wok : ∀ a b, 0 ≤ (s.take k).wd a b ∧ (s.take k).wd a b < 18446744073709551616 := fun a b => by
    unfold Ms.take
    dsimp only
    split
    · omega
    · exact i.wok a b
  cases hb : s.back.getLast? with
  | some k' =>
    rw [hb] at hk
    obtain rfl : k' = k := by simpa using hk
    have hne : s.back ≠ [] := by rintro e; rw [e] at hb; cases hb
    have hm := (i.mem k').1 (List.mem_of_getLast? hb)
    have en : (s.take k').next = s.next := by simp [Ms.take, hne]
    refine ⟨by rw [en]; exact i.le, fun a h => ?_, List.Sublist.nodup (List.dropLast_sublist _) i.nd, fun a => ?_, wok⟩
    · rw [en]
      by_cases e : a = k'
      · rw [e]; exact hm.1
      · exact i.tkl a (by simpa [Ms.take, fput, e] using h)
    · rw [en]
      show a ∈ s.back.dropLast ↔ a < s.next ∧ fput s.tk k' true a = false
      rw [dropLast_mem hb i.nd, i.mem a]
      by_cases e : a = k'
      · simp [e, fput]
      · simp [e, fput]
  | none =>
    have he : s.back = [] := by simpa using hb
    rw [hb] at hk
    simp only at hk
    split at hk
    · rename_i hlt
      obtain rfl : s.next = k := by simpa using hk
      have en : (s.take s.next).next = s.next + 1 := by simp [Ms.take, he]
      refine ⟨by rw [en]; exact hlt, fun a h => ?_, by show s.back.dropLast.Nodup; rw [he]; exact List.nodup_nil, fun a => ?_, wok⟩
      · rw [en]
        by_cases e : a = s.next
        · omega
        · have := i.tkl a (by simpa [Ms.take, fput, e] using h)
          omega
      · rw [en]
        show a ∈ s.back.dropLast ↔ a < s.next + 1 ∧ fput s.tk s.next true a = false
        have := i.mem a
        rw [he] at this ⊢
        simp at this ⊢
        intro h1
        by_cases e : a = s.next
        · simp [e, fput]
        · have := this (by omega)
          simp [e, fput, this]
    · cases hk

theorem frees_mem {s : Ms} (i : s.Inv) (k : Nat) : k ∈ s.frees ↔ k < s.n ∧ s.tk k = false := by
  have hle := i.le
  unfold frees
  rw [List.mem_append, List.mem_reverse, List.mem_range'_1, i.mem k]
  constructor
  · rintro (⟨h1, h2⟩ | ⟨h1, h2⟩)
    · refine ⟨by omega, ?_⟩
      cases ht : s.tk k with
      | true => have := i.tkl _ ht; omega
      | false => rfl
    · exact ⟨by omega, h2⟩
  · rintro ⟨h1, h2⟩
    by_cases h : k < s.next
    · exact .inr ⟨h, h2⟩
    · exact .inl ⟨by omega, by omega⟩
theorem frees_nodup {s : Ms} (i : s.Inv) : s.frees.Nodup := by
  unfold frees
  rw [List.nodup_append]
  refine ⟨List.pairwise_reverse.2 ((List.nodup_range' (step := 1)).imp fun h => h.symm), i.nd, fun a ha b hb => ?_⟩
  rw [List.mem_reverse, List.mem_range'_1] at ha
  have := (i.mem b).1 hb
  omega
end Ms
/-- A list without doubles, all below n, is not longer than n. -/
theorem nodup_le : ∀ (n : Nat) (l : List Nat), l.Nodup → (∀ x ∈ l, x < n) → l.length ≤ n
  | 0, [], _, _ => Nat.le_refl _
  | 0, x :: _, _, h => absurd (h x (by simp)) (by omega)
  | n + 1, l, nd, h => by
    by_cases hm : n ∈ l
    · have h1 := nodup_le n (l.erase n) (nd.erase n) (fun x hx => by
        have hx' := (List.Nodup.mem_erase_iff nd).1 hx
        have := h x hx'.2
        have := hx'.1
        omega)
      rw [List.length_erase_of_mem hm] at h1
      omega
    · have h1 := nodup_le n l nd (fun x hx => by
        have := h x hx
        have : x ≠ n := fun e => hm (e ▸ hx)
        omega)
      omega
theorem Ms.frees_le {s : Ms} (i : s.Inv) : s.frees.length ≤ s.n := nodup_le s.n _ (frees_nodup i) fun x hx => ((frees_mem i x).1 hx).1
end Go.Proofs.Ytndhgomikpokpaa
