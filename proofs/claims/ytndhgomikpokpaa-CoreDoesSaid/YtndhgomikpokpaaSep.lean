/- The words in which every contract of this family speaks of memory: a small separation logic over the model's heap, blocks as its atoms. Plain lemmas, no program in sight. -/
import Derived.WalkKit
import Derived.Deep.Draws
import Derived.BigQuiet
import Derived.Maps.AppendAt
import Derived.Laws.MakeOwn
namespace Go.Proofs.Ytndhgomikpokpaa
open Go.RowKit

/-- A piece of a heap. -/
abbrev Hp := Nat → Option Obj
def HProp := Hp → Prop

namespace Hpm
def sub (h k : Hp) : Prop := ∀ b o, h b = some o → k b = some o
def disj (h k : Hp) : Prop := ∀ b, h b = none ∨ k b = none
def union (h k : Hp) : Hp := fun b => (h b).or (k b)
def emp : Hp := fun _ => none
def single (b : Nat) (o : Obj) : Hp := fun k => if k = b then some o else none

theorem disj_symm {h k : Hp} (d : disj h k) : disj k h := fun b => (d b).symm
theorem union_comm {h k : Hp} (d : disj h k) : union h k = union k h := by
  funext b
  simp only [union]
  have := d b
  cases hh : h b <;> cases hk : k b <;> simp_all
theorem union_assoc (h k l : Hp) : union (union h k) l = union h (union k l) := by
  funext b
  simp only [union]
  cases h b <;> simp
theorem disj_union_left {h k l : Hp} : disj (union h k) l ↔ disj h l ∧ disj k l := by
  constructor
  · intro d
    refine ⟨fun b => ?_, fun b => ?_⟩ <;> rcases d b with e | e <;> (try simp only [union] at e)
    · left; cases hb : h b <;> simp_all
    · right; exact e
    · left; cases hb : h b <;> simp_all
    · right; exact e
  · intro ⟨d1, d2⟩ b
    rcases d1 b with e1 | e1
    · rcases d2 b with e2 | e2
      · left; simp [union, e1, e2]
      · right; exact e2
    · right; exact e1
theorem disj_union_right {h k l : Hp} : disj h (union k l) ↔ disj h k ∧ disj h l := by
  constructor
  · intro d
    have := disj_union_left.1 (disj_symm d)
    exact ⟨disj_symm this.1, disj_symm this.2⟩
  · intro ⟨d1, d2⟩
    exact disj_symm (disj_union_left.2 ⟨disj_symm d1, disj_symm d2⟩)
theorem sub_union_left {h k l : Hp} (s : sub (union h k) l) : sub h l := fun b o e => s b o (by simp [union, e])
theorem sub_union_right {h k l : Hp} (d : disj h k) (s : sub (union h k) l) : sub k l := by
  rw [union_comm d] at s
  exact sub_union_left s
theorem sub_union {h k l : Hp} (s1 : sub h l) (s2 : sub k l) : sub (union h k) l := by
  intro b o e
  simp only [union] at e
  cases hb : h b with
  | none => rw [hb] at e; exact s2 b o (by simpa using e)
  | some x => rw [hb] at e; simp at e; subst e; exact s1 b x hb
end Hpm
open Hpm

def star (P Q : HProp) : HProp := fun h => ∃ h1 h2, disj h1 h2 ∧ h = union h1 h2 ∧ P h1 ∧ Q h2
instance : Mul HProp := ⟨star⟩
theorem star_def (P Q : HProp) (h : Hp) : (P * Q) h ↔ ∃ h1 h2, disj h1 h2 ∧ h = union h1 h2 ∧ P h1 ∧ Q h2 := Iff.rfl

theorem star_comm (P Q : HProp) : P * Q = Q * P := by
  funext h
  apply propext
  constructor <;> rintro ⟨h1, h2, d, rfl, p, q⟩ <;> exact ⟨h2, h1, disj_symm d, union_comm d, q, p⟩
theorem star_assoc (P Q R : HProp) : (P * Q) * R = P * (Q * R) := by
  funext h
  apply propext
  constructor
  · rintro ⟨h12, h3, d, rfl, ⟨h1, h2, d', rfl, p, q⟩, r⟩
    have := disj_union_left.1 d
    exact ⟨h1, union h2 h3, disj_union_right.2 ⟨d', this.1⟩, union_assoc _ _ _, p, h2, h3, this.2, rfl, q, r⟩
  · rintro ⟨h1, h23, d, rfl, p, ⟨h2, h3, d', rfl, q, r⟩⟩
    have := disj_union_right.1 d
    exact ⟨union h1 h2, h3, disj_union_left.2 ⟨this.2, d'⟩, (union_assoc _ _ _).symm, ⟨h1, h2, this.1, rfl, p, q⟩, r⟩
theorem star_left_comm (P Q R : HProp) : P * (Q * R) = Q * (P * R) := by
  rw [← star_assoc, star_comm P Q, star_assoc]

/-- The world has at least these blocks, so. -/
def Has (w : World) (P : HProp) : Prop := ∃ h : Hp, sub h (fun b => w.heap[b]?) ∧ P h

def lift (p : Prop) : HProp := fun h => p ∧ h = emp
def ex {α : Type} (P : α → HProp) : HProp := fun h => ∃ x, P x h
def blk (b : Nat) (cs : Array Value) (t : TypeId) : HProp := fun h => h = single b (.cells cs t (0, 0))
/-- All blocks below B are as they were in w0. -/
def old (w0 : World) (B : Nat) : HProp := fun h => h = fun b => if b < B then w0.heap[b]? else none

section
variable {w w' : World} {P Q R S : HProp}

theorem Has.imp (h : Has w P) (i : ∀ x, P x → Q x) : Has w Q := let ⟨x, s, p⟩ := h; ⟨x, s, i x p⟩
theorem Has.eq (h : Has w P) (e : P = Q) : Has w Q := e ▸ h
theorem Has.left (h : Has w (P * Q)) : Has w P := by
  obtain ⟨_, s, h1, h2, d, rfl, p, q⟩ := h
  exact ⟨h1, sub_union_left s, p⟩
theorem Has.right (h : Has w (P * Q)) : Has w Q := by
  obtain ⟨_, s, h1, h2, d, rfl, p, q⟩ := h
  exact ⟨h2, sub_union_right d s, q⟩
theorem Has.swap (h : Has w (P * Q)) : Has w (Q * P) := star_comm P Q ▸ h
theorem Has.a1 (h : Has w ((P * Q) * R)) : Has w (P * (Q * R)) := star_assoc P Q R ▸ h
theorem Has.a2 (h : Has w (P * (Q * R))) : Has w ((P * Q) * R) := by rw [star_assoc]; exact h
/-- The second of three comes first. -/
theorem Has.p2 (h : Has w (P * (Q * R))) : Has w (Q * (P * R)) := star_left_comm P Q R ▸ h
theorem Has.imp_left (h : Has w (P * R)) (i : ∀ x, P x → Q x) : Has w (Q * R) := h.imp fun _ ⟨h1, h2, d, e, p, q⟩ => ⟨h1, h2, d, e, i _ p, q⟩
theorem Has.imp_right (h : Has w (R * P)) (i : ∀ x, P x → Q x) : Has w (R * Q) := h.imp fun _ ⟨h1, h2, d, e, p, q⟩ => ⟨h1, h2, d, e, p, i _ q⟩

theorem has_lift {p : Prop} : Has w (lift p * P) ↔ p ∧ Has w P := by
  constructor
  · intro h
    refine ⟨?_, h.right⟩
    obtain ⟨_, _, h1, _, _, _, ⟨hp, _⟩, _⟩ := h
    exact hp
  · rintro ⟨hp, x, s, q⟩
    exact ⟨x, s, emp, x, fun b => .inl rfl, by funext b; simp [union, emp], ⟨hp, rfl⟩, q⟩
theorem ex_star {α : Type} (F : α → HProp) : ex F * P = ex fun x => F x * P := by
  funext h
  apply propext
  constructor
  · rintro ⟨h1, h2, d, e, ⟨x, p⟩, q⟩
    exact ⟨x, h1, h2, d, e, p, q⟩
  · rintro ⟨x, h1, h2, d, e, p, q⟩
    exact ⟨h1, h2, d, e, ⟨x, p⟩, q⟩
theorem has_ex {α : Type} {F : α → HProp} : Has w (ex F) ↔ ∃ x, Has w (F x) := by
  constructor
  · rintro ⟨h, s, x, p⟩
    exact ⟨x, h, s, p⟩
  · rintro ⟨x, h, s, p⟩
    exact ⟨h, s, x, p⟩
theorem has_ex_star {α : Type} {F : α → HProp} : Has w (ex F * P) ↔ ∃ x, Has w (F x * P) := by rw [ex_star, has_ex]

theorem Has.heap {b : Nat} {cs : Array Value} {t : TypeId} (h : Has w (blk b cs t * R)) : w.heap[b]? = some (.cells cs t (0, 0)) := by
  obtain ⟨_, s, h1, h2, d, rfl, rfl, q⟩ := h
  exact s b _ (by simp [union, single])
theorem Has.lt {b : Nat} {cs : Array Value} {t : TypeId} (h : Has w (blk b cs t * R)) : b < w.heap.size := (Array.getElem?_eq_some_iff.1 h.heap).1
theorem Has.cell {b : Nat} {cs : Array Value} {t : TypeId} (h : Has w (blk b cs t * R)) (i : Nat) : w.cell? ⟨b, i, none⟩ = cs[i]? := cell_of_row w b i cs t (0, 0) h.heap
theorem Has.free {b : Nat} {cs : Array Value} {t : TypeId} (h : Has w (blk b cs t * R)) (i : Nat) : w.frozen? ⟨b, i, none⟩ = false := by
  have := h.heap
  simp [World.frozen?, this]
theorem Has.ne {b b' : Nat} {cs cs' : Array Value} {t t' : TypeId} (h : Has w (blk b cs t * (blk b' cs' t' * R))) : b ≠ b' := by
  rintro rfl
  obtain ⟨_, s, h1, h2, d, rfl, rfl, h3, h4, d', rfl, rfl, q⟩ := h
  rcases d b with e | e <;> simp [single, union] at e

theorem Has.cells4 {b : Nat} {v0 v1 v2 v3 : Value} {t : TypeId} (h : Has w (blk b #[v0, v1, v2, v3] t * R)) :
    w.cell? ⟨b, 0, none⟩ = some v0 ∧ w.cell? ⟨b, 1, none⟩ = some v1 ∧ w.cell? ⟨b, 2, none⟩ = some v2 ∧ w.cell? ⟨b, 3, none⟩ = some v3 :=
  ⟨h.cell 0, h.cell 1, h.cell 2, h.cell 3⟩
theorem Has.drop3 {A B X O : HProp} (h : Has w (A * (B * (X * O)))) : Has w (A * (B * O)) :=
  (h.eq (show _ = X * (A * (B * O)) by simp only [star_left_comm])).right
theorem Has.drop4 {A B C X O : HProp} (h : Has w (A * (B * (C * (X * O))))) : Has w (A * (B * (C * O))) :=
  (h.eq (show _ = X * (A * (B * (C * O))) by simp only [star_left_comm])).right
theorem Has.frees4 {b : Nat} {v0 v1 v2 v3 : Value} {t : TypeId} (h : Has w (blk b #[v0, v1, v2, v3] t * R)) :
    w.frozen? ⟨b, 0, none⟩ = false ∧ w.frozen? ⟨b, 1, none⟩ = false ∧ w.frozen? ⟨b, 2, none⟩ = false ∧ w.frozen? ⟨b, 3, none⟩ = false :=
  ⟨h.free 0, h.free 1, h.free 2, h.free 3⟩
theorem Has.frees3 {b : Nat} {v0 v1 v2 : Value} {t : TypeId} (h : Has w (blk b #[v0, v1, v2] t * R)) :
    w.frozen? ⟨b, 0, none⟩ = false ∧ w.frozen? ⟨b, 1, none⟩ = false ∧ w.frozen? ⟨b, 2, none⟩ = false :=
  ⟨h.free 0, h.free 1, h.free 2⟩
theorem Has.cells6 {b : Nat} {v0 v1 v2 v3 v4 v5 : Value} {t : TypeId} (h : Has w (blk b #[v0, v1, v2, v3, v4, v5] t * R)) :
    w.cell? ⟨b, 0, none⟩ = some v0 ∧ w.cell? ⟨b, 1, none⟩ = some v1 ∧ w.cell? ⟨b, 2, none⟩ = some v2 ∧ w.cell? ⟨b, 3, none⟩ = some v3 ∧ w.cell? ⟨b, 4, none⟩ = some v4 ∧ w.cell? ⟨b, 5, none⟩ = some v5 :=
  ⟨h.cell 0, h.cell 1, h.cell 2, h.cell 3, h.cell 4, h.cell 5⟩
theorem Has.cells5 {b : Nat} {v0 v1 v2 v3 v4 : Value} {t : TypeId} (h : Has w (blk b #[v0, v1, v2, v3, v4] t * R)) :
    w.cell? ⟨b, 0, none⟩ = some v0 ∧ w.cell? ⟨b, 1, none⟩ = some v1 ∧ w.cell? ⟨b, 2, none⟩ = some v2 ∧ w.cell? ⟨b, 3, none⟩ = some v3 ∧ w.cell? ⟨b, 4, none⟩ = some v4 :=
  ⟨h.cell 0, h.cell 1, h.cell 2, h.cell 3, h.cell 4⟩
theorem Has.cells3 {b : Nat} {v0 v1 v2 : Value} {t : TypeId} (h : Has w (blk b #[v0, v1, v2] t * R)) :
    w.cell? ⟨b, 0, none⟩ = some v0 ∧ w.cell? ⟨b, 1, none⟩ = some v1 ∧ w.cell? ⟨b, 2, none⟩ = some v2 :=
  ⟨h.cell 0, h.cell 1, h.cell 2⟩
theorem Has.cells2 {b : Nat} {v0 v1 : Value} {t : TypeId} (h : Has w (blk b #[v0, v1] t * R)) :
    w.cell? ⟨b, 0, none⟩ = some v0 ∧ w.cell? ⟨b, 1, none⟩ = some v1 :=
  ⟨h.cell 0, h.cell 1⟩

/-- The heart: what becomes of the rest when one block of its own turns. -/
theorem Has.upd {b : Nat} {cs : Array Value} {t : TypeId} (h : Has w (blk b cs t * R)) {cs' : Array Value} {t' : TypeId}
    (hb : w'.heap[b]? = some (.cells cs' t' (0, 0))) (ho : ∀ k, k < w.heap.size → k ≠ b → w'.heap[k]? = w.heap[k]?) : Has w' (blk b cs' t' * R) := by
  obtain ⟨_, s, h1, h2, d, rfl, rfl, q⟩ := h
  refine ⟨union (single b (.cells cs' t' (0, 0))) h2, ?_, _, _, ?_, rfl, rfl, q⟩
  · refine sub_union ?_ ?_
    · intro k o e
      simp only [single] at e
      split at e
      · rename_i hk; subst hk; simp at e; subst e; exact hb
      · cases e
    · intro k o e
      have hk : k ≠ b := by
        rintro rfl
        rcases d k with e' | e'
        · simp [single] at e'
        · rw [e'] at e; cases e
      have h0 := sub_union_right d s k o e
      have hlt : k < w.heap.size := (Array.getElem?_eq_some_iff.1 h0).1
      show w'.heap[k]? = some o
      rw [ho k hlt hk]
      exact h0
  · intro k
    rcases d k with e | e
    · left; simp only [single] at e ⊢; split at e <;> simp_all
    · right; exact e

/-- What stands is still there behind anything that turns no block that was there. -/
theorem Has.keep (h : Has w P) (ho : ∀ k, k < w.heap.size → w'.heap[k]? = w.heap[k]?) : Has w' P := by
  obtain ⟨x, s, p⟩ := h
  refine ⟨x, fun k o e => ?_, p⟩
  have h0 := s k o e
  have hlt : k < w.heap.size := (Array.getElem?_eq_some_iff.1 h0).1
  show w'.heap[k]? = some o
  rw [ho k hlt]
  exact h0
theorem Has.below (h : Has w P) (hb : Below w.heap.size w w') : Has w' P := h.keep hb.block
theorem Has.drew (h : Has w P) : Has w.drew P := h
theorem Has.drewN (h : Has w P) (n : Nat) : Has (w.drewN n) P := h
theorem Has.alloc (h : Has w P) (o : Obj) : Has (w.alloc o) P := h.keep fun k hk => Below.heap_alloc w o k hk
theorem Has.set {b : Nat} {cs : Array Value} {t : TypeId} (h : Has w (blk b cs t * R)) (i : Nat) (v : Value) :
    Has (w.setCell ⟨b, i, none⟩ v) (blk b (cs.setIfInBounds i v) t * R) :=
  h.upd (by have := h.heap; simp [World.setCell, Array.getElem?_modify, this]) fun k _ hk => Below.heap_setCell w _ v k hk
theorem Has.set4 {b : Nat} {v0 v1 v2 v3 : Value} {t : TypeId} (h : Has w (blk b #[v0, v1, v2, v3] t * R)) (u0 u1 u2 u3 : Value) :
    Has ((((w.setCell ⟨b, 0, none⟩ u0).setCell ⟨b, 1, none⟩ u1).setCell ⟨b, 2, none⟩ u2).setCell ⟨b, 3, none⟩ u3) (blk b #[u0, u1, u2, u3] t * R) :=
  (((h.set 0 u0).set 1 u1).set 2 u2).set 3 u3
/-- A new block: it is one's own from now on. -/
theorem Has.new (h : Has w P) (cs : Array Value) (t : TypeId) : Has (w.alloc (.cells cs t)) (blk w.heap.size cs t * P) := by
  obtain ⟨x, s, p⟩ := h
  have hx : x w.heap.size = none := by
    cases e : x w.heap.size with
    | none => rfl
    | some o =>
      have h0 := s _ _ e
      have hlt : w.heap.size < w.heap.size := (Array.getElem?_eq_some_iff.1 h0).1
      omega
  refine ⟨union (single w.heap.size (.cells cs t (0, 0))) x, ?_, _, _, ?_, rfl, rfl, p⟩
  · refine sub_union ?_ ?_
    · intro k o e
      simp only [single] at e
      split at e
      · rename_i hk; subst hk; simp at e; subst e; exact heap_alloc_new w _
      · cases e
    · intro k o e
      have h0 := s k o e
      have hlt : k < w.heap.size := (Array.getElem?_eq_some_iff.1 h0).1
      show (w.alloc _).heap[k]? = some o
      rw [Below.heap_alloc w _ k hlt]
      exact h0
  · intro k
    by_cases hk : k = w.heap.size
    · right; rw [hk]; exact hx
    · left; simp [single, hk]
/-- A block that is one's own and that was laid behind all of P. -/
theorem Has.newSet (h : Has w P) (cs : Array Value) (t : TypeId) (i : Nat) (v : Value) : Has ((w.alloc (.cells cs t)).setCell ⟨w.heap.size, i, none⟩ v) P :=
  ((h.new cs t).set i v).right

theorem has_old (w : World) : Has w (old w w.heap.size) :=
  ⟨_, fun b o e => by dsimp only at e ⊢; split at e <;> simp_all, rfl⟩
theorem Has.oldAt {w0 : World} {B : Nat} (h : Has w (old w0 B * R)) {b : Nat} (hb : b < B) (hB : B ≤ w0.heap.size) : w.heap[b]? = w0.heap[b]? := by
  obtain ⟨_, s, h1, h2, d, rfl, rfl, q⟩ := h
  have hlt : b < w0.heap.size := by omega
  have : (fun b => if b < B then w0.heap[b]? else none) b = some w0.heap[b] := by simp [hb, hlt]
  have h0 : w.heap[b]? = some w0.heap[b] := s b w0.heap[b] (by simp only [union, this]; simp)
  rw [h0]
  simp [hlt]
theorem Has.oldCell {w0 : World} (h : Has w (old w0 w0.heap.size * R)) {a : Addr} (hb : a.block < w0.heap.size) : w.cell? a = w0.cell? a :=
  World.cell?_of_block (w := w0) (h.oldAt hb (Nat.le_refl _))
theorem Has.oldCell' {w0 : World} (h : Has w (old w0 w0.heap.size * R)) {a : Addr} {v : Value} (hb : w0.cell? a = some v) : w.cell? a = some v :=
  (h.oldCell (World.block_lt_of_cell? w0 a hb)).trans hb
end

/-- Of all that is no block nothing has turned. -/
structure Ext (w w' : World) : Prop where
  os : w'.os = w.os
  tape : w'.tape = w.tape
  output : w'.output = w.output
  size : w.heap.size ≤ w'.heap.size
theorem Ext.refl (w : World) : Ext w w := ⟨rfl, rfl, rfl, Nat.le_refl _⟩
theorem Ext.trans {a b c : World} (h : Ext a b) (k : Ext b c) : Ext a c := ⟨k.os.trans h.os, k.tape.trans h.tape, k.output.trans h.output, Nat.le_trans h.size k.size⟩
theorem Ext.drew {a w : World} (h : Ext a w) : Ext a w.drew := ⟨h.os, h.tape, h.output, h.size⟩
theorem Ext.drewN {a w : World} (h : Ext a w) (n : Nat) : Ext a (w.drewN n) := ⟨h.os, h.tape, h.output, h.size⟩
theorem Ext.alloc {a w : World} (h : Ext a w) (o : Obj) : Ext a (w.alloc o) := ⟨h.os, h.tape, h.output, Nat.le_trans h.size (by simp)⟩
theorem Ext.set {a w : World} (h : Ext a w) (p : Addr) (v : Value) : Ext a (w.setCell p v) := ⟨h.os, h.tape, h.output, by simpa [World.setCell] using h.size⟩
theorem Ext.below {a w w' : World} {B : Nat} (h : Ext a w) (k : Below B w w') : Ext a w' := h.trans ⟨k.os, k.tape, k.output, k.size⟩
theorem Ext.grown {a w w' : World} {row : Option Nat} (h : Ext a w) (k : w.grownBy w' row) : Ext a w' := h.trans ⟨k.os, k.tape, k.output, k.size⟩
theorem Ext.setRow {a w : World} (h : Ext a w) (g : Nat) (cs : Array Value) : Ext a (w.setRow g cs) := ⟨h.os, h.tape, h.output, by simpa [World.setRow] using h.size⟩
/-- The end of a law: all that was there is there. -/
theorem below_of {w0 w : World} {R : HProp} (h : Has w (old w0 w0.heap.size * R)) (e : Ext w0 w) : Below w0.heap.size w0 w :=
  ⟨e.os, e.tape, e.output, e.size, fun _ hk => h.oldAt hk (Nat.le_refl _)⟩

theorem below_of1 {w0 w : World} (h : Has w (old w0 w0.heap.size)) (e : Ext w0 w) : Below w0.heap.size w0 w :=
  below_of (R := lift True) (Has.swap (has_lift.2 ⟨trivial, h⟩)) e

/-! ### What a call comes to, behind names that a walk does not open -/
/-- It returns v; memory is Q then. -/
def Res (v : Value) (Q : HProp) (w : World) (e : Ending) (w' : World) : Prop := e = .returned v ∧ Has w' Q ∧ Ext w w'
/-- It returns v; nothing that was there has turned. -/
def Pure (v : Value) (w : World) (e : Ending) (w' : World) : Prop := e = .returned v ∧ Below w.heap.size w w'
/-- It returns v; the world is the very same. -/
def Same (v : Value) (w : World) (e : Ending) (w' : World) : Prop := e = .returned v ∧ w = w'
theorem Same.pure {v : Value} {w w' : World} {e : Ending} (h : Same v w e w') : Pure v w e w' := ⟨h.1, h.2 ▸ Below.refl _ _⟩

/-! ### Slices of the call's own -/
/-- The slice value v, of n elements of type e (size cells each), nil or at the head of a row of its own, whose first cells are xs. -/
def row (e size : Nat) (v : Value) (n : Nat) (xs : List Value) : HProp := fun h =>
  xs.length = n * size ∧
  ((v = .slice none 0 0 ∧ n = 0 ∧ h = emp) ∨
   ∃ g cap cur, v = .slice (some ⟨g, 0, none⟩) n cap ∧ n ≤ cap ∧ cap ≤ maxLen ∧ cur.size = cap * size ∧ cur.toList.take (n * size) = xs ∧ blk g cur e h)

section
variable {w w' : World} {P Q R S : HProp} {e size : Nat} {v : Value} {n : Nat} {xs : List Value}
theorem Has.ownsRow (h : Has w (row e size v n xs * R)) : w.ownsRow 0 e size v n xs := by
  obtain ⟨_, s, h1, h2, d, rfl, ⟨hl, h0 | ⟨g, cap, cur, rfl, hn, hc, hs, ht, rfl⟩⟩, q⟩ := h
  · exact ⟨hl, .inl ⟨h0.1, h0.2.1⟩⟩
  · exact ⟨hl, .inr ⟨g, cap, cur, rfl, Nat.zero_le _, s g _ (by simp [union, single]), hn, hc, hs, ht⟩⟩
theorem Has.rowNil (h : Has w R) : Has w (row e size (.slice none 0 0) 0 [] * R) := by
  obtain ⟨x, s, q⟩ := h
  exact ⟨x, s, emp, x, fun _ => .inl rfl, by funext b; simp [union, emp], ⟨by simp, .inl ⟨rfl, rfl, rfl⟩⟩, q⟩
/-- A row under a nil or another value: as a block, where it is one. -/
theorem Has.rowCases (h : Has w (row e size v n xs * R)) :
    (v = .slice none 0 0 ∧ n = 0 ∧ xs = [] ∧ Has w R) ∨
    ∃ g cap cur, v = .slice (some ⟨g, 0, none⟩) n cap ∧ n ≤ cap ∧ cap ≤ maxLen ∧ cur.size = cap * size ∧ cur.toList.take (n * size) = xs ∧ Has w (blk g cur e * R) := by
  have hr := h.right
  obtain ⟨_, s, h1, h2, d, rfl, ⟨hl, h0 | ⟨g, cap, cur, rfl, hn, hc, hs, ht, hb⟩⟩, q⟩ := h
  · obtain ⟨rfl, rfl, rfl⟩ := h0
    exact .inl ⟨rfl, rfl, by simpa using hl, hr⟩
  · exact .inr ⟨g, cap, cur, rfl, hn, hc, hs, ht, _, s, h1, h2, d, rfl, hb, q⟩
theorem Has.rowOf {g cap : Nat} {cur : Array Value} (h : Has w (blk g cur e * R)) (hl : xs.length = n * size) (hn : n ≤ cap) (hc : cap ≤ maxLen) (hs : cur.size = cap * size)
    (ht : cur.toList.take (n * size) = xs) : Has w (row e size (.slice (some ⟨g, 0, none⟩) n cap) n xs * R) :=
  h.imp_left fun _ hb => ⟨hl, .inr ⟨g, cap, cur, rfl, hn, hc, hs, ht, hb⟩⟩
/-- Behind a law that ends in 'ownsRow' and 'grownBy' (append): the row in its new state, all else as it was. -/
theorem Has.rowGrown {v' : Value} {n' : Nat} {xs' : List Value} (h : Has w (row e size v n xs * R)) {base : Nat} (ho : w'.ownsRow base e size v' n' xs') (hg : w.grownBy w' v.ownBlock)
    (hb : v'.ownBlock = v.ownBlock ∨ ∀ k, v'.ownBlock = some k → w.heap.size ≤ k) : Has w' (row e size v' n' xs' * R) := by
  rcases ho.2 with ⟨rfl, rfl⟩ | ⟨g, cap, cur, rfl, _, hh, hn, hc, hs, ht⟩
  · have hx : xs' = [] := by simpa using ho.1
    subst hx
    refine Has.rowNil ?_
    rcases h.rowCases with ⟨rfl, _, _, hR⟩ | ⟨g, cap, cur, rfl, _, _, _, _, hB⟩
    · exact hR.keep fun k hk => hg.block k hk (by simp [Value.ownBlock])
    · have hgl := hB.lt
      have hk := (hB.upd (w' := w.setRow g cur) (cs' := cur) (t' := e) (setRow_heap w g cur cur e (0, 0) hB.heap) (fun k _ hk => setRow_other w g k cur hk))
      clear hk
      obtain ⟨_, s, h1, h2, d, rfl, rfl, q⟩ := hB
      refine ⟨h2, fun k o hk => ?_, q⟩
      have hne : k ≠ g := by
        rintro rfl
        rcases d k with e' | e'
        · simp [single] at e'
        · rw [e'] at hk; cases hk
      have h0 := sub_union_right d s k o hk
      have hlt : k < w.heap.size := (Array.getElem?_eq_some_iff.1 h0).1
      show w'.heap[k]? = some o
      rw [hg.block k hlt (by simp [Value.ownBlock, hne])]
      exact h0
  · refine Has.rowOf (g := g) (cap := cap) (cur := cur) ?_ ho.1 hn hc hs ht
    rcases h.rowCases with ⟨rfl, _, _, hR⟩ | ⟨g0, cap0, cur0, rfl, _, _, _, _, hB⟩
    · -- the old one was nil: the new row lies behind all that was there
      have hge : w.heap.size ≤ g := by
        rcases hb with hb | hb
        · simp [Value.ownBlock] at hb
        · exact hb g rfl
      obtain ⟨x, s, q⟩ := hR
      refine ⟨union (single g (.cells cur e (0, 0))) x, ?_, _, _, ?_, rfl, rfl, q⟩
      · refine sub_union ?_ ?_
        · intro k o hk
          simp only [single] at hk
          split at hk
          · rename_i hkk; subst hkk; simp at hk; subst hk; exact hh
          · cases hk
        · intro k o hk
          have h0 := s k o hk
          have hlt : k < w.heap.size := (Array.getElem?_eq_some_iff.1 h0).1
          show w'.heap[k]? = some o
          rw [hg.block k hlt (by simp [Value.ownBlock])]
          exact h0
      · intro k
        by_cases hk : k = g
        · right
          cases hx : x k with
          | none => rfl
          | some o =>
            have h0 := s _ _ hx
            have hlt : k < w.heap.size := (Array.getElem?_eq_some_iff.1 h0).1
            omega
        · left; simp [single, hk]
    · by_cases hgg : g = g0
      · subst hgg
        exact hB.upd hh fun k hk hne => hg.block k hk (by simp [Value.ownBlock, hne])
      · have hge : w.heap.size ≤ g := by
          rcases hb with hb | hb
          · simp [Value.ownBlock] at hb; exact absurd hb hgg
          · exact hb g rfl
        obtain ⟨_, s, h1, h2, d, rfl, rfl, q⟩ := hB
        refine ⟨union (single g (.cells cur e (0, 0))) h2, ?_, _, _, ?_, rfl, rfl, q⟩
        · refine sub_union ?_ ?_
          · intro k o hk
            simp only [single] at hk
            split at hk
            · rename_i hkk; subst hkk; simp at hk; subst hk; exact hh
            · cases hk
          · intro k o hk
            have hne : k ≠ g0 := by
              rintro rfl
              rcases d k with e' | e'
              · simp [single] at e'
              · rw [e'] at hk; cases hk
            have h0 := sub_union_right d s k o hk
            have hlt : k < w.heap.size := (Array.getElem?_eq_some_iff.1 h0).1
            show w'.heap[k]? = some o
            rw [hg.block k hlt (by simp [Value.ownBlock, hne])]
            exact h0
        · intro k
          by_cases hk : k = g
          · right
            cases hx : h2 k with
            | none => rfl
            | some o =>
              have h0 := sub_union_right d s _ _ hx
              have hlt : k < w.heap.size := (Array.getElem?_eq_some_iff.1 h0).1
              omega
          · left; simp [single, hk]
end

/-- What the laws on append and make ask of an element's type. -/
structure Elem (P : Program) (e : TypeId) (z : Value) (size bytes : Nat) : Prop where
  info : (P.info? e).map (fun i => (i.zero, i.size, i.bytes)) = some (some z, size, bytes)
  cells : z.cells.size = size
  pos : 0 < size

section
variable {P : Program} {w : World} {R : HProp}
theorem run_append_has {t ty e : TypeId} {z : Value} {size bytes : Nat} (hT : P.underlying t = some (.slice e)) (hE : Elem P e z size bytes)
    (v : Value) (n : Nat) (xs : List Value) (h : Has w (row e size v n xs * R))
    (ad : Addr) (m c : Nat) (news : List Value) (hl : news.length = m * size) (hnews : ∀ j u, news[j]? = some u → w.cell? (ad.add j) = some u) (h1 : ∀ u ∈ news, u.oneCell' = true)
    (h63 : n + m ≤ maxLen) (hbytes : (n + m) * bytes ≤ 140737488355328) :
    ∃ v' w', (Builtin.append_ #[t, t] ty #[v, .slice (some ad) m c]).run P w = .ok v' w' ∧ Has w' (row e size v' (n + m) (xs ++ news) * R) ∧ Ext w w' := by
  obtain ⟨i, hi, hz, hs, hb⟩ := info_parts hE.info
  obtain ⟨v', w', hr, ho, hg, _, hbk⟩ := run_append_own_at (P := P) w 0 t ty e i z size bytes hT hi hz hs hb hE.cells hE.pos v n xs h.ownsRow ad m c news hl hnews h1 h63 hbytes (Nat.zero_le _)
  refine ⟨v', w', hr, h.rowGrown ho hg ?_, (Ext.refl w).grown hg⟩
  rcases hbk with hbk | hbk
  · exact .inl hbk
  · exact .inr fun k hk => by rw [hbk] at hk; injection hk with hk; omega

theorem wp_append_has {o : Oper} {a : Act} {K : Act → World → Prop} {Q : Exit → Act → World → Prop} (s x : Operand) (t : TypeId)
    (ho : o.op = .call { callee := .builtin .append, args := #[s, x], argTypes := #[t, t] }) {e : TypeId} {z : Value} {size bytes : Nat} (hT : P.underlying t = some (.slice e)) (hE : Elem P e z size bytes)
    (v : Value) (n : Nat) (xs : List Value) (hs : a.eval s = v) (h : Has w (row e size v n xs * R))
    (ad : Addr) (m c : Nat) (news : List Value) (hx : a.eval x = .slice (some ad) m c) (hl : news.length = m * size) (hnews : ∀ j u, news[j]? = some u → w.cell? (ad.add j) = some u) (h1 : ∀ u ∈ news, u.oneCell' = true)
    (h63 : n + m ≤ maxLen) (hbytes : (n + m) * bytes ≤ 140737488355328)
    (hk : ∀ v' w', Has w' (row e size v' (n + m) (xs ++ news) * R) → Ext w w' → K (a.put o.dst v') w') : o.wp P a w K Q := by
  obtain ⟨v', w', hr, h2, h3⟩ := run_append_has (ty := o.type) hT hE v n xs h ad m c news hl hnews h1 h63 hbytes
  unfold Oper.wp execOp
  simp only [ho, resolve, invoke, builtin, Sem.run_bind, Sem.run_pure, Result.andThen_ok, List.map_toArray, List.map_cons, List.map_nil, hs, hx, hr]
  exact hk v' w' h2 h3

/-- 'append' onto a row of one's own, at the operation. -/
theorem wpList_append_has {ops : Array Oper} {rest : List Oper} {o : Oper} {a : Act} {Q : Exit → Act → World → Prop} (hgd : o.guard = none) (s x : Operand) (t : TypeId)
    (ho : o.op = .call { callee := .builtin .append, args := #[s, x], argTypes := #[t, t] }) {e : TypeId} {z : Value} {size bytes : Nat} (hT : P.underlying t = some (.slice e)) (hE : Elem P e z size bytes)
    (v : Value) (n : Nat) (xs : List Value) (hs : a.eval s = v) (h : Has w (row e size v n xs * R))
    (ad : Addr) (m c : Nat) (news : List Value) (hx : a.eval x = .slice (some ad) m c) (hl : news.length = m * size) (hnews : ∀ j u, news[j]? = some u → w.cell? (ad.add j) = some u) (h1 : ∀ u ∈ news, u.oneCell' = true)
    (h63 : n + m ≤ maxLen) (hbytes : (n + m) * bytes ≤ 140737488355328)
    (hk : ∀ v' w', Has w' (row e size v' (n + m) (xs ++ news) * R) → Ext w w' → wpList P ops Q rest (a.put o.dst v') w') : wpList P ops Q (o :: rest) a w :=
  wpList_plain hgd fun _ hK => wp_append_has s x t ho hT hE v n xs hs h ad m c news hx hl hnews h1 h63 hbytes fun v' w' h2 h3 => hK _ _ (hk v' w' h2 h3)

/-- One new cell at the head of a new block. -/
theorem news_one (w : World) (u : Value) (e : TypeId) : ∀ j x, ([u] : List Value)[j]? = some x → (w.alloc (.cells #[u] e)).cell? ((⟨w.heap.size, 0, none⟩ : Addr).add j) = some x := by
  intro j x hj
  match j, hj with
  | 0, hj => simp at hj; subst hj; rw [show ((⟨w.heap.size, 0, none⟩ : Addr).add 0) = ⟨w.heap.size, 0, none⟩ from rfl, cell_of_row _ _ 0 #[u] e (0, 0) (heap_alloc_new w _)]; rfl
/-- So many new cells at the head of a new block. -/
theorem news_many (w : World) (us : List Value) (e : TypeId) : ∀ j x, us[j]? = some x → (w.alloc (.cells us.toArray e)).cell? ((⟨w.heap.size, 0, none⟩ : Addr).add j) = some x := by
  intro j x hj
  have e1 : ((⟨w.heap.size, 0, none⟩ : Addr).add j) = ⟨w.heap.size, j, none⟩ := by unfold Addr.add; split <;> simp_all
  rw [e1, cell_of_row _ _ j us.toArray e (0, 0) (heap_alloc_new w _)]
  simpa using hj
end

/-- The slice value v, of n elements of one cell each, reads xs. -/
def Rd (w : World) (A : Option Addr) (n : Nat) (xs : List Value) : Prop :=
  xs.length = n ∧ n ≤ 9223372036854775807 ∧ ∀ j u, xs[j]? = some u → ∃ b off, A = some ⟨b, off, none⟩ ∧ b < w.heap.size ∧ w.cell? ⟨b, off + j, none⟩ = some u
theorem Rd.at_ {w : World} {A : Option Addr} {n j : Nat} {xs : List Value} {u : Value} (h : Rd w A n xs) (hu : xs[j]? = some u) : ∃ b off, A = some ⟨b, off, none⟩ ∧ b < w.heap.size ∧ w.cell? ⟨b, off + j, none⟩ = some u := h.2.2 j u hu
theorem Rd.below {w w' : World} {A : Option Addr} {n : Nat} {xs : List Value} (h : Rd w A n xs) (hb : Below w.heap.size w w') : Rd w' A n xs :=
  ⟨h.1, h.2.1, fun j u hu => by
    obtain ⟨b, off, e, hl, hc⟩ := h.2.2 j u hu
    exact ⟨b, off, e, Nat.lt_of_lt_of_le hl hb.size, (hb.cell (p := ⟨b, off + j, none⟩) hl).trans hc⟩⟩
theorem Has.rd {w : World} {R : HProp} {e : TypeId} {A : Option Addr} {n c : Nat} {xs : List Value} {k : Nat} (h : Has w (row e 1 (.slice A n c) k xs * R)) : Rd w A n xs ∧ k = n := by
  rcases h.rowCases with ⟨hv, rfl, rfl, _⟩ | ⟨g, cap, cur, hv, hn, hc, hs, ht, hb⟩
  · injection hv with h1 h2 h3
    subst h1; subst h2
    exact ⟨⟨rfl, by omega, fun j u hu => by simp at hu⟩, rfl⟩
  · injection hv with h1 h2 h3
    subst h1; subst h2; subst h3
    refine ⟨⟨?_, by unfold maxLen at hc; omega, fun j u hu => ⟨g, 0, rfl, hb.lt, ?_⟩⟩, rfl⟩
    · rw [← ht]
      simp
      omega
    · rw [hb.cell, ← hu, ← ht]
      have hj : j < n := by
        have := List.getElem?_eq_some_iff.1 hu
        obtain ⟨hlt, _⟩ := this
        rw [← ht] at hlt
        simp at hlt
        omega
      simp [hj]
theorem Has.rowForm {w : World} {R : HProp} {e size : TypeId} {v : Value} {n : Nat} {xs : List Value} (h : Has w (row e size v n xs * R)) : ∃ A c, v = .slice A n c := by
  rcases h.rowCases with ⟨hv, rfl, _, _⟩ | ⟨g, cap, cur, hv, _⟩
  · exact ⟨_, _, hv⟩
  · exact ⟨_, _, hv⟩
theorem Has.rowLen {w : World} {R : HProp} {e : TypeId} {v : Value} {n : Nat} {xs : List Value} (h : Has w (row e 1 v n xs * R)) : xs.length = n := by
  obtain ⟨A, c, rfl⟩ := h.rowForm
  exact h.rd.1.1

/-- The slice of n elements at A reads ls: each element its cells. -/
def Arr (w : World) (A : Option Addr) (n size : Nat) (ls : List (List Value)) : Prop :=
  ls.length = n ∧ n ≤ 9223372036854775807 ∧ ∀ i xs, ls[i]? = some xs → ∃ b off, A = some ⟨b, off, none⟩ ∧ b < w.heap.size ∧ ∀ j u, xs[j]? = some u → w.cell? ⟨b, off + i * size + j, none⟩ = some u
theorem Arr.at_ {w : World} {A : Option Addr} {n size i : Nat} {ls : List (List Value)} {xs : List Value} (h : Arr w A n size ls) (hi : ls[i]? = some xs) :
    ∃ b off, A = some ⟨b, off, none⟩ ∧ b < w.heap.size ∧ ∀ j u, xs[j]? = some u → w.cell? ⟨b, off + i * size + j, none⟩ = some u := h.2.2 i xs hi
theorem Arr.old {w0 w : World} {R : HProp} {A : Option Addr} {n size : Nat} {ls : List (List Value)} (h : Arr w0 A n size ls) (ho : Has w (old w0 w0.heap.size * R)) (e : Ext w0 w) : Arr w A n size ls :=
  ⟨h.1, h.2.1, fun i xs hi => by
    obtain ⟨b, off, ha, hb, hc⟩ := h.2.2 i xs hi
    exact ⟨b, off, ha, Nat.lt_of_lt_of_le hb e.size, fun j u hu => ho.oldCell' (hc j u hu)⟩⟩
theorem Has.one {w : World} {P : HProp} (h : Has w P) : Has w (P * lift True) := Has.swap (has_lift.2 ⟨trivial, h⟩)
theorem Arr.old1 {w0 w : World} {A : Option Addr} {n size : Nat} {ls : List (List Value)} (h : Arr w0 A n size ls) (ho : Has w (Go.Proofs.Ytndhgomikpokpaa.old w0 w0.heap.size)) (e : Ext w0 w) : Arr w A n size ls := h.old ho.one e
/-- A callee that leaves the world alone, inside a region that draws. -/
theorem Same.quiet {P : Program} {f : FuncId} {args : Array Value} {w : World} {n : Nat} {v : Value} (h : Calls P f args (w.drewN n) (Same v (w.drewN n))) :
    Calls P f args (w.drewN n) fun e w'' => e = .returned v ∧ ∃ m, w'' = w.drewN m :=
  h.mono fun _ _ ⟨he, hw⟩ => ⟨he, n, hw.symm⟩

/-! ### A region that draws its order, whose operations read and call what leaves all that was there -/
open Classical in
/-- u, if it leaves all that was in w; else w itself. -/
noncomputable def via (w u : World) : World := if Below w.heap.size w u then u else w
theorem via_below (w u : World) : Below w.heap.size w (via w u) := by
  unfold via
  split
  · assumption
  · exact Below.refl _ _
theorem via_of {w u : World} (h : Below w.heap.size w u) : ∃ x, u = via w x := ⟨u, by unfold via; rw [if_pos h]⟩
theorem via_cell {w : World} {a : Addr} {v : Value} (h : w.cell? a = some v) (u : World) : (via w u).cell? a = some v :=
  ((via_below w u).cell (World.block_lt_of_cell? w a h)).trans h
theorem wp_region_via {P : Program} {id : Nat} {Q : Exit → Act → World → Prop} {a : Act} {w : World} {l : List Oper} (hm : P.follows .mixedOrders = true) (hB : Region.lexB .any l.toArray = true)
    (h : wpQuiet P l.toArray (fun w' => ∃ u, w' = via w u) (fun a' => ∀ w', (∃ u, w' = via w u) → Q .normal a' w') l a) : (Code.region id l.toArray true).wp P Q a w :=
  wp_region_quiet (C := fun w' => ∃ u, w' = via w u) hm hB (via_of ⟨rfl, rfl, rfl, Nat.le_refl _, fun _ _ => rfl⟩) (by simpa using h)
/-- A callee that leaves all that was there, inside such a region. -/
theorem Pure.via {P : Program} {f : FuncId} {args : Array Value} {w u : World} {v : Value} (h : Calls P f args (via w u) (Pure v (via w u))) :
    Calls P f args (Go.Proofs.Ytndhgomikpokpaa.via w u) fun e w'' => e = .returned v ∧ ∃ x, w'' = Go.Proofs.Ytndhgomikpokpaa.via w x :=
  h.mono fun _ _ ⟨he, hw⟩ => ⟨he, via_of ((via_below w u).trans (hw.mono (via_below w u).size))⟩
theorem Same.via {P : Program} {f : FuncId} {args : Array Value} {w u : World} {v : Value} (h : Calls P f args (via w u) (Same v (via w u))) :
    Calls P f args (Go.Proofs.Ytndhgomikpokpaa.via w u) fun e w'' => e = .returned v ∧ ∃ x, w'' = Go.Proofs.Ytndhgomikpokpaa.via w x :=
  h.mono fun _ _ ⟨he, hw⟩ => ⟨he, u, hw.symm⟩
theorem Has.via {w : World} {P : HProp} (h : Has w P) (u : World) : Has (via w u) P := h.below (via_below w u)
end Go.Proofs.Ytndhgomikpokpaa
