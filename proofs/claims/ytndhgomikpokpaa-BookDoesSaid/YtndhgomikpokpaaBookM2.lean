/- More of a book as plain Lean: the document's way to add; turns. -/
import Derived.Test.YtndhgomikpokpaaBookM
namespace Go.Proofs.Ytndhgomikpokpaa
open Go.RowKit
namespace Bk
theorem take_pos (l : List Mp) (p : Int) : l.takeWhile (before p) = l.take (pos l p) := by
  conv => rhs; rw [← split l p]
  unfold pos
  rw [List.take_append_of_le_length (by rw [split]; exact Nat.le_refl _), split, List.take_of_length_le (Nat.le_refl _)]
theorem drop_pos (l : List Mp) (p : Int) : l.dropWhile (before p) = l.drop (pos l p) := by
  have h := split l p
  rw [take_pos] at h
  have h2 := List.take_append_drop (pos l p) l
  exact List.append_cancel_left (h.trans h2.symm)
theorem ins_eq (l : List Mp) (m : Mp) : ins l m = l.take (pos l m.page) ++ m :: l.drop (pos l m.page) := by
  unfold ins
  rw [take_pos, drop_pos]
/-- What the document's way to add has laid behind i mappings; k: where the new one stands. -/
def part (l : List Mp) (m : Mp) (k i : Nat) : List Mp := if i ≤ k then l.take i else l.take k ++ m :: (l.take i).drop k
theorem part_zero (l : List Mp) (m : Mp) (k : Nat) : part l m k 0 = [] := by simp [part]
theorem part_low {l : List Mp} {m : Mp} {k i : Nat} (h : i < k) (hi : i < l.length) : part l m k (i + 1) = part l m k i ++ [l[i]] := by
  unfold part
  rw [if_pos (by omega), if_pos (by omega), List.take_succ_eq_append_getElem hi]
theorem part_at {l : List Mp} {m : Mp} {i : Nat} (hi : i < l.length) : part l m i (i + 1) = part l m i i ++ [m] ++ [l[i]] := by
  unfold part
  rw [if_neg (by omega), if_pos (Nat.le_refl _), List.take_succ_eq_append_getElem hi, List.drop_append_of_le_length (by simp; omega)]
  simp
theorem part_high {l : List Mp} {m : Mp} {k i : Nat} (h : k < i) (hi : i < l.length) : part l m k (i + 1) = part l m k i ++ [l[i]] := by
  unfold part
  rw [if_neg (by omega), if_neg (by omega), List.take_succ_eq_append_getElem hi, List.drop_append_of_le_length (by simp; omega)]
  simp
theorem part_end {l : List Mp} {m : Mp} {k : Nat} (h : k < l.length) : part l m k l.length = l.take k ++ m :: l.drop k := by
  unfold part
  rw [if_neg (by omega), List.take_of_length_le (Nat.le_refl _)]
theorem part_last (l : List Mp) (m : Mp) : part l m l.length l.length ++ [m] = l.take l.length ++ m :: l.drop l.length := by
  unfold part
  simp
/-- Of what does not meet it: what lies behind it by its page lies behind it. -/
theorem behind {l : List Mp} (h : Ok l) {m : Mp} (hm : MapOk m) {i : Nat} (hi : i < l.length) (hn : meet l[i] m = false) : decide (m.page < l[i].page) = decide (pos l m.page ≤ i) := by
  have hx := h.chk l[i] (List.getElem_mem hi)
  have hb := pos_iff h m.page hi
  have h1 := (meet_false hx hm).1 hn
  have h2 := before_iff (p := m.page) hx
  have := hx.sp; have := hm.sp
  by_cases hp : pos l m.page ≤ i
  · rw [decide_eq_true hp]
    rw [decide_eq_false (by omega)] at hb
    have : ¬ l[i].page + span l[i].size ≤ m.page := fun e => by rw [h2.2 e] at hb; cases hb
    exact decide_eq_true (by omega)
  · rw [decide_eq_false hp]
    rw [decide_eq_true (by omega)] at hb
    have := h2.1 hb
    exact decide_eq_false (by omega)
theorem mem_ins {l : List Mp} {m x : Mp} : x ∈ ins l m ↔ x = m ∨ x ∈ l := by
  unfold ins
  conv => rhs; rw [← split l m.page]
  simp only [List.mem_append, List.mem_cons]
  constructor
  · rintro (a | a | a)
    · exact .inr (.inl a)
    · exact .inl a
    · exact .inr (.inr a)
  · rintro (a | a | a)
    · exact .inr (.inl a)
    · exact .inl a
    · exact .inr (.inr a)
theorem apart_at {l : List Mp} (h : Ok l) {a b : Nat} (ha : a < l.length) (hb : b < l.length) (hne : a ≠ b) : meet l[a] l[b] = false := by
  have hx := h.chk _ (List.getElem_mem ha)
  have hy := h.chk _ (List.getElem_mem hb)
  rw [meet_false hx hy]
  rcases Nat.lt_or_gt_of_ne hne with hlt | hlt
  · exact .inl (List.pairwise_iff_getElem.1 h.up a b ha hb hlt)
  · exact .inr (List.pairwise_iff_getElem.1 h.up b a hb ha hlt)
/-- The first i mappings of a book, counted from the s-th on and around. -/
structure Turned (all c : List Mp) (s i : Nat) : Prop where
  ok : Ok c
  mem : ∀ x, x ∈ c ↔ ∃ j, j < i ∧ ∃ h : (j + s) % all.length < all.length, x = all[(j + s) % all.length]
theorem Turned.zero (all : List Mp) (s : Nat) : Turned all [] s 0 := ⟨Ok.nil, fun x => by constructor; (intro h; cases h); (rintro ⟨j, h, _⟩; omega)⟩
theorem mod_ne {j i s n : Nat} (h : j < i) (hi : i < n) : (j + s) % n ≠ (i + s) % n := by
  intro e
  have h1 := Nat.div_add_mod (j + s) n
  have h2 := Nat.div_add_mod (i + s) n
  rw [e] at h1
  have h3 : n * ((i + s) / n) = n * ((j + s) / n) + (i - j) := by omega
  have h4 : (i - j) % n = 0 := by
    have := congrArg (· % n) h3
    simp only [Nat.mul_mod_right, Nat.mul_add_mod] at this
    exact this.symm
  rw [Nat.mod_eq_of_lt (by omega)] at h4
  omega
theorem Turned.next {all c : List Mp} {s i : Nat} (ha : Ok all) (h : Turned all c s i) (hi : i < all.length) (hk : (i + s) % all.length < all.length) :
    addC c all[(i + s) % all.length] = 0 ∧ Turned all (add c all[(i + s) % all.length]) s (i + 1) := by
  have hm := ha.chk _ (List.getElem_mem hk)
  have hc := mapOk_check hm
  have hb : bad c all[(i + s) % all.length] = false := by
    unfold bad
    rw [List.any_eq_false]
    intro x hx
    obtain ⟨j, hj, hjl, rfl⟩ := (h.mem x).1 hx
    rw [apart_at ha hjl hk (mod_ne hj hi)]
    simp
  refine ⟨by unfold addC; rw [hc, hb]; rfl, ?_⟩
  unfold Bk.add
  rw [if_pos ⟨hc, hb⟩]
  refine ⟨h.ok.ins hm hb, fun x => ?_⟩
  rw [mem_ins, h.mem x]
  constructor
  · rintro (rfl | ⟨j, hj, hjl, e⟩)
    · exact ⟨i, by omega, hk, rfl⟩
    · exact ⟨j, by omega, hjl, e⟩
  · rintro ⟨j, hj, hjl, e⟩
    by_cases hji : j = i
    · subst hji; exact .inl e
    · exact .inr ⟨j, by omega, hjl, e⟩
theorem Turned.all {all c : List Mp} {s : Nat} (ha : Ok all) (h : Turned all c s all.length) : c = all := by
  refine Ok.ext h.ok ha fun x => ?_
  rw [h.mem x]
  constructor
  · rintro ⟨j, _, hjl, rfl⟩
    exact List.getElem_mem hjl
  · intro hx
    obtain ⟨k, hk, rfl⟩ := List.getElem_of_mem hx
    have hn : 0 < all.length := by omega
    have hs := Nat.mod_lt s hn
    have hd := Nat.div_add_mod s all.length
    by_cases hle : s % all.length ≤ k
    · refine ⟨k - s % all.length, by omega, Nat.mod_lt _ hn, ?_⟩
      have : (k - s % all.length + s) % all.length = k := by
        rw [show k - s % all.length + s = all.length * (s / all.length) + k by omega, Nat.mul_add_mod, Nat.mod_eq_of_lt hk]
      simp only [this]
    · refine ⟨k + all.length - s % all.length, by omega, Nat.mod_lt _ hn, ?_⟩
      have : (k + all.length - s % all.length + s) % all.length = k := by
        rw [show k + all.length - s % all.length + s = all.length * (s / all.length + 1) + k by rw [Nat.mul_add]; omega, Nat.mul_add_mod, Nat.mod_eq_of_lt hk]
      simp only [this]
/-- Of a book: those of its first i mappings that have a page, and all others. -/
def stage (all : List Mp) (p : Int) (i : Nat) : List Mp := (all.take i).filter (fun m => over m p) ++ all.drop i
theorem stage_zero (all : List Mp) (p : Int) : stage all p 0 = all := by simp [stage]
theorem stage_ok {all : List Mp} (h : Ok all) (p : Int) (i : Nat) : Ok (stage all p i) := by
  refine h.sub ?_
  unfold stage
  conv => rhs; rw [← List.take_append_drop i all]
  exact List.Sublist.append List.filter_sublist (List.Sublist.refl _)
theorem stage_same {all : List Mp} {p : Int} {i : Nat} (hi : i < all.length) (ho : over all[i] p = true) : stage all p (i + 1) = stage all p i := by
  unfold stage
  rw [List.take_succ_eq_append_getElem hi, List.filter_append, List.drop_eq_getElem_cons hi]
  simp [ho]
theorem stage_next {all : List Mp} (h : Ok all) {p : Int} {i : Nat} (hi : i < all.length) (ho : over all[i] p = false) : del (stage all p i) all[i].page = stage all p (i + 1) := by
  have hm := h.chk _ (List.getElem_mem hi)
  have hself : over all[i] all[i].page = true := over_iff.2 ⟨by omega, by have := hm.sp; omega⟩
  have hlow : ∀ x ∈ (all.take i).filter (fun m => over m p), (!over x all[i].page) = true := fun x hx => by
    obtain ⟨j, hj, rfl⟩ := List.getElem_of_mem (List.filter_sublist.subset hx)
    rw [List.getElem_take]
    simp only [List.length_take] at hj
    have := List.pairwise_iff_getElem.1 h.up j i (by omega) hi (by omega)
    rw [over_false.2 (.inr this)]
    rfl
  have hhigh : ∀ x ∈ all.drop (i + 1), (!over x all[i].page) = true := fun x hx => by
    obtain ⟨j, hj, rfl⟩ := List.getElem_of_mem hx
    rw [List.getElem_drop]
    simp only [List.length_drop] at hj
    have := List.pairwise_iff_getElem.1 h.up i (i + 1 + j) hi (by omega) (by omega)
    have := hm.sp
    rw [over_false.2 (.inl (by omega))]
    rfl
  unfold stage del
  rw [List.filter_append, List.filter_eq_self.2 hlow, List.drop_eq_getElem_cons hi, List.filter_cons, hself, List.take_succ_eq_append_getElem hi, List.filter_append]
  rw [if_neg (by simp), List.filter_eq_self.2 hhigh]
  simp [ho]
theorem find_filter (l : List Mp) (p : Int) : (l.filter fun m => over m p).find? (fun m => over m p) = l.find? fun m => over m p := by
  induction l with
  | nil => rfl
  | cons x l ih =>
    rw [List.filter_cons, List.find?_cons]
    cases hx : over x p with
    | true => rw [if_pos rfl, List.find?_cons, hx]
    | false => rw [if_neg (by simp)]; exact ih
theorem stage_find (all : List Mp) (p : Int) : find (stage all p all.length) p = find all p := by
  unfold stage find
  rw [List.drop_length, List.append_nil, List.take_of_length_le (Nat.le_refl _)]
  exact find_filter all p
end Bk
end Go.Proofs.Ytndhgomikpokpaa
