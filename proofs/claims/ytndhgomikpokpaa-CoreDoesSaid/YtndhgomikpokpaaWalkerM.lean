/- A walk step by step, as plain Lean: one state for the program's walker and the document's core; with no program in sight. -/
import Derived.Test.YtndhgomikpokpaaWalkM
import Derived.Test.YtndhgomikpokpaaTlbM
namespace Go.Proofs.Ytndhgomikpokpaa
open Go.RowKit

structure Ck where
  on : Bool
  a : Ac
  t : Int
  level : Int
  mark : Bool
  w : Int
/-- What a step tells. -/
structure Rs where
  fin : Bool
  an : An
  ln : Ln
def Rs.zero : Rs := ⟨false, An.zero, ⟨Mp.zero, false⟩⟩
def Ck.zero : Ck := ⟨false, Ac.zero, 0, 0, false, 0⟩
def Ck.idle (c : Ck) : Ck := { c with on := false, a := Ac.zero, mark := false }
def Ck.again (c : Ck) (root : Int) : Ck := if c.on = true then { c with t := root, level := 3, mark := false } else c
def Ck.begin (c : Ck) (root : Int) (a : Ac) : Ck := { c with on := true, a := a, t := root, level := 3, mark := false }
def readyE (e : En) (a : Ac) : Bool := e.used && (e.dirty || a.kind != 1)
def markE (e : En) (a : Ac) : En := { e with used := true, dirty := e.dirty || a.kind == 1 }
structure Sp where
  c : Ck
  s : Ms
  r : Rs
  code : Int
/-- The word that a step reads. -/
def Ck.word (c : Ck) (s : Ms) : Int := wordV s c.t (index c.a.page c.level)
def Ck.leafEnd (c : Ck) (s : Ms) (e : En) : Sp :=
  ⟨c.idle, s, ⟨true, answer (leafMap e c.level c.a.page) c.a, ⟨leafMap e c.level c.a.page, e.dirty⟩⟩, 0⟩
def Ck.endWith (c : Ck) (s : Ms) (f : Int) : Sp := ⟨c.idle, s, ⟨true, ⟨f, 0, 0⟩, ⟨Mp.zero, false⟩⟩, 0⟩
/-- A step. -/
def stepC (s : Ms) (root : Int) (c : Ck) : Sp :=
  if c.on = false then ⟨c, s, Rs.zero, 9⟩
  else if s.has c.t = false then ⟨c, s, Rs.zero, 12⟩
  else if c.mark = true ∧ c.word s ≠ c.w then ⟨c.again root, s, Rs.zero, 0⟩
  else if decC (c.word s) c.level ≠ 0 then ⟨c, s, Rs.zero, decC (c.word s) c.level⟩
  else if (decE (c.word s) c.level).there = false then c.endWith s 1
  else if (decE (c.word s) c.level).leaf = false then ⟨{ c with t := (decE (c.word s) c.level).frame, level := c.level - 1 }, s, Rs.zero, 0⟩
  else if may (decE (c.word s) c.level).rights c.a = false then c.endWith s 2
  else if c.mark = true then
    c.leafEnd (s.setW c.t.toNat (index c.a.page c.level).toNat (encW (markE (decE (c.word s) c.level) c.a) c.level)) (markE (decE (c.word s) c.level) c.a)
  else if readyE (decE (c.word s) c.level) c.a = true then c.leafEnd s (decE (c.word s) c.level)
  else ⟨{ c with mark := true, w := c.word s }, s, Rs.zero, 0⟩

/-- Where a walk may be. -/
structure Ck.Ok (c : Ck) : Prop where
  acc : c.on = true → checkAccess c.a = 0
  l0 : c.on = true → 0 ≤ c.level
  l3 : c.on = true → c.level ≤ 3
  off : c.on = false → c.a = Ac.zero ∧ c.mark = false
  dec : c.mark = true → decC c.w c.level = 0
  leaf : c.mark = true → (decE c.w c.level).there = true ∧ (decE c.w c.level).leaf = true
  may : c.mark = true → may (decE c.w c.level).rights c.a = true
  need : c.mark = true → readyE (decE c.w c.level) c.a = false
theorem Ck.Ok.zero : Ck.zero.Ok := ⟨fun h => (by cases h), fun h => (by cases h), fun h => (by cases h), fun _ => ⟨rfl, rfl⟩, fun h => (by cases h), fun h => (by cases h), fun h => (by cases h), fun h => (by cases h)⟩
theorem Ck.Ok.idle {c : Ck} : c.idle.Ok := ⟨fun h => (by cases h), fun h => (by cases h), fun h => (by cases h), fun _ => ⟨rfl, rfl⟩, fun h => (by cases h), fun h => (by cases h), fun h => (by cases h), fun h => (by cases h)⟩
theorem Ck.Ok.begin {c : Ck} (root : Int) {a : Ac} (h : checkAccess a = 0) : (c.begin root a).Ok :=
  ⟨fun _ => h, fun _ => (by show (0 : Int) ≤ 3; omega), fun _ => (by show (3 : Int) ≤ 3; omega), fun h => (by cases h), fun h => (by cases h), fun h => (by cases h), fun h => (by cases h), fun h => (by cases h)⟩
theorem Ck.Ok.again {c : Ck} (h : c.Ok) (root : Int) : (c.again root).Ok := by
  unfold Ck.again
  split
  · rename_i hon
    exact ⟨fun _ => h.acc hon, fun _ => (by show (0 : Int) ≤ 3; omega), fun _ => (by show (3 : Int) ≤ 3; omega), fun h => (by rw [hon] at h; cases h), fun h => (by cases h), fun h => (by cases h), fun h => (by cases h), fun h => (by cases h)⟩
  · exact h
theorem Ck.Ok.step {c : Ck} (h : c.Ok) (s : Ms) (root : Int) : (stepC s root c).c.Ok := by
  unfold stepC
  split
  · exact h
  rename_i hon
  have hon : c.on = true := by simpa using hon
  split
  · exact h
  split
  · exact h.again root
  rename_i hm
  split
  · exact h
  rename_i hd
  have hd : decC (c.word s) c.level = 0 := by simpa using hd
  split
  · exact Ck.Ok.idle
  rename_i ht
  split
  · rename_i hl
    have hmk : c.mark = false := by
      cases hmk : c.mark with
      | false => rfl
      | true =>
        have e : c.word s = c.w := Decidable.byContradiction fun e => hm ⟨hmk, e⟩
        have := (h.leaf hmk).2
        rw [← e, hl] at this
        cases this
    have h0 := h.l0 hon
    have hpos : 0 < c.level := by
      refine Decidable.byContradiction fun hn => ?_
      have e0 : c.level = 0 := by omega
      rw [e0] at hd ht hl
      rcases dec0_leaf hd with hx | hx
      · exact ht hx
      · rw [hl] at hx; cases hx
    have h3 := h.l3 hon
    exact ⟨fun _ => h.acc hon, fun _ => (by show 0 ≤ c.level - 1; omega), fun _ => (by show c.level - 1 ≤ 3; omega), fun hx => (by have : c.on = false := hx; rw [hon] at this; cases this), fun hx => (by have : c.mark = true := hx; rw [hmk] at this; cases this),
      fun hx => (by have : c.mark = true := hx; rw [hmk] at this; cases this), fun hx => (by have : c.mark = true := hx; rw [hmk] at this; cases this), fun hx => (by have : c.mark = true := hx; rw [hmk] at this; cases this)⟩
  rename_i hl
  split
  · exact Ck.Ok.idle
  rename_i hmay
  split
  · exact Ck.Ok.idle
  split
  · exact Ck.Ok.idle
  rename_i hr
  exact ⟨h.acc, h.l0, h.l3, fun hx => (by have : c.on = false := hx; rw [hon] at this; cases this), fun _ => hd, fun _ => ⟨by simpa using ht, by simpa using hl⟩, fun _ => (by simpa using hmay), fun _ => (by simpa using hr)⟩
/-- A mark is needed just if the leaf is not what it must be. -/
theorem mark_ready (e : En) (a : Ac) : markE e a = e ↔ readyE e a = true := by
  obtain ⟨t, l, r, u, d, f⟩ := e
  unfold markE readyE
  constructor
  · intro h
    injection h with _ _ _ h4 h5 _
    cases u <;> cases d <;> simp_all
  · intro h
    cases u <;> cases d <;> simp_all
end Go.Proofs.Ytndhgomikpokpaa
