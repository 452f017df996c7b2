/- A book as plain Lean: what stands at the place of a page. -/
import Derived.Test.YtndhgomikpokpaaBookM2
namespace Go.Proofs.Ytndhgomikpokpaa
open Go.RowKit
theorem meet_comm (a b : Mp) : meet a b = meet b a := Bool.or_comm _ _
namespace Bk
/-- Of a page: its mapping stands at its place, or there is none. -/
theorem place {l : List Mp} (h : Ok l) (p : Int) : (find l p = none ∧ del l p = l ∧ ∀ r, prot l p r = l) ∨
    ∃ hl : pos l p < l.length, over l[pos l p] p = true ∧ find l p = some l[pos l p] ∧ 0 ≤ p ∧ p < 4096 ∧ del l p = l.take (pos l p) ++ l.drop (pos l p + 1) ∧
      ∀ r, prot l p r = l.take (pos l p) ++ { l[pos l p] with rights := r } :: l.drop (pos l p + 1) := by
  have hf := find_head h p
  have hd := del_head h p
  have hp := fun r => prot_head h p r
  cases e : l.dropWhile (before p) with
  | nil =>
    rw [e] at hf hd
    exact .inl ⟨hf, hd, fun r => by rw [hp r, e]⟩
  | cons y k =>
    obtain ⟨hl, hy⟩ := drop_head e
    rw [e] at hf hd
    have hk : l.drop (pos l p + 1) = k := by
      have h1 := drop_pos l p
      rw [e, List.drop_eq_getElem_cons hl] at h1
      injection h1 with _ h1
      exact h1.symm
    cases ho : over y p with
    | false =>
      refine .inl ⟨?_, ?_, fun r => ?_⟩
      · rw [hf]; exact if_neg (by rw [ho]; simp)
      · rw [hd]; exact if_neg (by rw [ho]; simp)
      · rw [hp r, e]; exact if_neg (by rw [ho]; simp)
    | true =>
      have hm := h.chk y (hy ▸ List.getElem_mem hl)
      have hov := over_iff.1 ho
      have := hm.p0; have := hm.p1
      refine .inr ⟨hl, by rw [hy]; exact ho, ?_, by omega, by omega, ?_, fun r => ?_⟩
      · rw [hf, hy]; exact if_pos ho
      · rw [hd, hk, ← take_pos]; exact if_pos ho
      · rw [hp r, e, hk, hy, ← take_pos]; exact if_pos ho
/-- What has a page stands at its place. -/
theorem over_at {l : List Mp} (h : Ok l) {p : Int} {k : Nat} (hk : k < l.length) (ho : over l[k] p = true) : k = pos l p ∧ find l p = some l[k] := by
  have hb := pos_iff h p hk
  have hn : before p l[k] = false := by unfold before; rw [ho]; rfl
  rw [hn] at hb
  have hge := of_decide_eq_false hb.symm
  rcases place h p with ⟨hf, _⟩ | ⟨hl, ho2, hf, _⟩
  · unfold find at hf
    have := List.find?_eq_none.1 hf l[k] (List.getElem_mem hk)
    exact absurd ho this
  · by_cases e : k = pos l p
    · subst e; exact ⟨rfl, hf⟩
    · have := List.pairwise_iff_getElem.1 h.up (pos l p) k hl hk (by omega)
      have a := over_iff.1 ho
      have b := over_iff.1 ho2
      omega
theorem over_none {l : List Mp} {p : Int} (hf : find l p = none) {k : Nat} (hk : k < l.length) : over l[k] p = false := by
  have := List.find?_eq_none.1 hf l[k] (List.getElem_mem hk)
  simpa using this
/-- Whether something meets a mapping: what stands at its place tells. -/
theorem bad_at {l : List Mp} (h : Ok l) {m : Mp} (hm : MapOk m) : bad l m = if h : pos l m.page < l.length then meet m l[pos l m.page] else false := by
  have hb := bad_head h hm
  cases e : l.dropWhile (before m.page) with
  | nil =>
    have := drop_nil e
    rw [e] at hb
    rw [dif_neg (by omega)]
    exact hb
  | cons y k =>
    obtain ⟨hl, hy⟩ := drop_head e
    rw [e] at hb
    rw [dif_pos hl, hy, meet_comm]
    exact hb
theorem bad_find {l : List Mp} {m : Mp} (hf : (find l m.page).isSome = true) : bad l m = true := by
  obtain ⟨y, hy⟩ := Option.isSome_iff_exists.1 hf
  have hm := List.mem_of_find?_eq_some hy
  have ho := List.find?_some hy
  exact List.any_eq_true.2 ⟨y, hm, by show (over y m.page || over m y.page) = true; rw [ho]; rfl⟩
theorem addC_check {l : List Mp} {m : Mp} (h : check m ≠ 0) : addC l m = check m ∧ add l m = l := by
  unfold addC Bk.add
  exact ⟨if_pos h, if_neg fun e => h e.1⟩
theorem addC_bad {l : List Mp} {m : Mp} (h : check m = 0) (hb : bad l m = true) : addC l m = 4 ∧ add l m = l := by
  unfold addC Bk.add
  exact ⟨by rw [if_neg (by omega), if_pos hb], if_neg fun e => by rw [hb] at e; cases e.2⟩
theorem addC_ok {l : List Mp} {m : Mp} (h : check m = 0) (hb : bad l m = false) : addC l m = 0 ∧ add l m = l.take (pos l m.page) ++ m :: l.drop (pos l m.page) := by
  unfold addC Bk.add
  exact ⟨by rw [if_neg (by omega), if_neg (by rw [hb]; simp)], by rw [if_pos ⟨h, hb⟩, ins_eq]⟩
/-- What Drop tells, and what it leaves. -/
def dropR (l : List Mp) (p : Int) : Option Mp := if hasB p = true then find l p else none
def dropC (l : List Mp) (p : Int) : Int := if hasB p = true then (if (find l p).isSome = true then 0 else 5) else 1
def dropL (l : List Mp) (p : Int) : List Mp := if hasB p = true then del l p else l
theorem Ok.dropL {l : List Mp} (h : Ok l) (p : Int) : Ok (dropL l p) := by
  unfold Bk.dropL
  split
  · exact h.del p
  · exact h
/-- What Protect tells, and what it leaves. -/
def protB (p r : Int) : Bool := hasB p && decide (0 ≤ r) && decide (r ≤ 7)
def protR (l : List Mp) (p r : Int) : Option Mp := if protB p r = true then (find l p).map fun x => { x with rights := r } else none
def protC (l : List Mp) (p r : Int) : Int := if protB p r = true then (if (find l p).isSome = true then 0 else 5) else 1
def protL (l : List Mp) (p r : Int) : List Mp := if protB p r = true then prot l p r else l
theorem protB_iff {p r : Int} : protB p r = true ↔ 0 ≤ p ∧ p < 4096 ∧ 0 ≤ r ∧ r ≤ 7 := by
  unfold protB hasB
  simp only [Bool.and_eq_true, decide_eq_true_eq]
  omega
theorem Ok.protL {l : List Mp} (h : Ok l) (p r : Int) : Ok (protL l p r) := by
  unfold Bk.protL
  split
  · rename_i hb
    have := protB_iff.1 hb
    exact h.prot p this.2.2.1 this.2.2.2
  · exact h
def ans (l : List Mp) (a : Ac) : An := match find l a.page with | none => ⟨1, 0, 0⟩ | some m => answer m a
end Bk
def mpOf : Option Mp → Value
  | none => .agg #[(Value.int .i64) 0, (Value.int .i64) 0, (Value.int .i64) 0, (Value.int .i64) 0]
  | some x => .agg #[(Value.int .i64) x.page, (Value.int .i64) x.size, (Value.int .i64) x.frame, (Value.int .i64) x.rights]
end Go.Proofs.Ytndhgomikpokpaa
