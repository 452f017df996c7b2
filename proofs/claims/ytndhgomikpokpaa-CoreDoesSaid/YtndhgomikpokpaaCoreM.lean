/- A core, as plain Lean: one state for the program's and the document's; with no program in sight. -/
import Derived.Test.YtndhgomikpokpaaWkrM
import Derived.Test.YtndhgomikpokpaaTlbM
namespace Go.Proofs.Ytndhgomikpokpaa
open Go.RowKit

/-- What is kept answers. -/
def hitA (l : List Ln) (a : Ac) : Option An :=
  match Tl.find l a.page with
  | some x => if x.dirty = true ∨ a.kind ≠ 1 ∨ may x.m.rights a = false then some (answer x.m a) else none
  | none => none
/-- What Begin tells. -/
structure Bq where
  an : An
  fin : Bool
  code : Int
  c : Ck
def coreB (l : List Ln) (root : Int) (k : Ck) (a : Ac) : Bq :=
  if checkAccess a ≠ 0 then ⟨An.zero, false, checkAccess a, k⟩
  else if k.on = true then ⟨An.zero, false, 8, k⟩
  else match hitA l a with
    | some r => ⟨r, true, 0, k⟩
    | none => ⟨An.zero, false, 0, k.begin root a⟩
theorem coreB_ok {l : List Ln} {root : Int} {k : Ck} {a : Ac} (h : k.Ok) : (coreB l root k a).c.Ok := by
  unfold coreB
  split; · exact h
  rename_i hc
  split; · exact h
  split; · exact h
  exact Ck.Ok.begin root (by simpa using hc)
/-- What a step of the program's core keeps. -/
def keepL (l : List Ln) (r : Rs) : List Ln := if r.fin = true ∧ r.an.fin = 0 then Tl.put l r.ln else l
theorem stepC_bad {s : Ms} {root : Int} {c : Ck} (h : (stepC s root c).code ≠ 0) : (stepC s root c).r = Rs.zero := by
  unfold stepC at h ⊢
  split; · rfl
  rename_i h1; rw [if_neg h1] at h
  split; · rfl
  rename_i h2; rw [if_neg h2] at h
  split; · rfl
  rename_i h3; rw [if_neg h3] at h
  split; · rfl
  rename_i h4; rw [if_neg h4] at h
  split
  · rename_i h5; rw [if_pos h5] at h; exact absurd rfl h
  rename_i h5; rw [if_neg h5] at h
  split
  · rfl
  rename_i h6; rw [if_neg h6] at h
  split
  · rename_i h7; rw [if_pos h7] at h; exact absurd rfl h
  rename_i h7; rw [if_neg h7] at h
  split
  · rename_i h8; rw [if_pos h8] at h; exact absurd rfl h
  rename_i h8; rw [if_neg h8] at h
  split
  · rename_i h9; rw [if_pos h9] at h; exact absurd rfl h
  · rfl
theorem leafMap_page (e : En) (l p : Int) : 0 ≤ (leafMap e l p).page ∧ (leafMap e l p).page < 4096 := by
  unfold leafMap
  split
  · rename_i h
    by_cases h0 : span l = 0
    · show 0 ≤ p / span l * span l ∧ p / span l * span l < 4096
      rw [h0]; omega
    have hs : 0 < span l := by rcases span_pos h0 with ⟨_, e⟩ | ⟨_, e⟩ | ⟨_, e⟩ <;> omega
    have h1 := Int.ediv_mul_le p h0
    have h2 : 0 ≤ p / span l := Int.ediv_nonneg (by omega) (by omega)
    have h3 : 0 ≤ p / span l * span l := Int.mul_nonneg h2 (by omega)
    exact ⟨h3, by show p / span l * span l < 4096; omega⟩
  · exact ⟨by show (0 : Int) ≤ 0; omega, by show (0 : Int) < 4096; omega⟩
theorem stepC_page (s : Ms) (root : Int) (c : Ck) : i64 (stepC s root c).r.ln.m.page := by
  have hz : i64 Mp.zero.page := by show i64 0; unfold i64; omega
  have hl : ∀ e l p, i64 (leafMap e l p).page := fun e l p => by have := leafMap_page e l p; unfold i64; omega
  unfold stepC
  split; · exact hz
  split; · exact hz
  split; · exact hz
  split; · exact hz
  split; · exact hz
  split; · exact hz
  split; · exact hz
  split; · exact hl _ _ _
  split; · exact hl _ _ _
  exact hz
theorem keepL_ok {l : List Ln} (h : Tl.Ok l) (r : Rs) : Tl.Ok (keepL l r) := by
  unfold keepL
  split
  · exact h.put _
  · exact h
end Go.Proofs.Ytndhgomikpokpaa
