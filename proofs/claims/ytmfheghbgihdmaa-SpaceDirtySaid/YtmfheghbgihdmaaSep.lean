/- The words in which every contract of this family speaks of memory: a small separation logic over the model's heap, blocks as its atoms. Plain lemmas, no program in sight. -/
import Derived.WalkKit
import Derived.Deep.Draws
import Derived.BigQuiet
import Derived.Maps.AppendAt
import Derived.Laws.MakeOwn
namespace Go.Proofs.Ytmfheghbgihdmaa
open Go.RowKit
/-- A piece of a heap. -/
abbrev Hp := Nat → Option Obj
def HProp := Hp → Prop
namespace Hpm
def sub (h k : Hp) : Prop := ∀ b o, h b = some o → k b = some o
def disj (h k : Hp) : Prop := ∀ b, h b = none ∨ k b = none
def union (h k : Hp) : Hp := fun b => (h b).or (k b)
def emp : Hp := fun _ => none
def single (b : Nat) (o : Obj) : Hp := fun k => if k = b then some o else none
theorem disj_symm {h k : Hp} (d : disj h k) : disj k h := fun b => (d b).symm
theorem union_comm {h k : Hp} (d : disj h k) : union h k = union k h := by
  funext b
  simp only [union]
  have := d b
  cases hh : h b <;> cases hk : k b <;> simp_all
theorem union_assoc (h k l : Hp) : union (union h k) l = union h (union k l) := by
  funext b
  simp only [union]
  cases h b <;> simp
theorem disj_union_left {h k l : Hp} : disj (union h k) l ↔ disj h l ∧ disj k l := by
  constructor
  · intro d
    refine ⟨fun b => ?_, fun b => ?_⟩ <;> rcases d b with e | e <;> (try simp only [union] at e)
    · left; cases hb : h b <;> simp_all
    · right; exact e
    · left; cases hb : h b <;> simp_all
    · right; exact e
  · intro ⟨d1, d2⟩ b
    rcases d1 b with e1 | e1
    · rcases d2 b with e2 | e2
      · left; simp [union, e1, e2]
      · right; exact e2
    · right; exact e1
theorem disj_union_right {h k l : Hp} : disj h (union k l) ↔ disj h k ∧ disj h l := by
  constructor
  · intro d
    have := disj_union_left.1 (disj_symm d)
    exact ⟨disj_symm this.1, disj_symm this.2⟩
  · intro ⟨d1, d2⟩
    exact disj_symm (disj_union_left.2 ⟨disj_symm d1, disj_symm d2⟩)
theorem sub_union_left {h k l : Hp} (s : sub (union h k) l) : sub h l := fun b o e => s b o (by simp [union, e])
theorem sub_union_right {h k l : Hp} (d : disj h k) (s : sub (union h k) l) : sub k l := by
  rw [union_comm d] at s
  exact sub_union_left s
theorem sub_union {h k l : Hp} (s1 : sub h l) (s2 : sub k l) : sub (union h k) l := by
  intro b o e
  simp only [union] at e
  cases hb : h b with
  | none => rw [hb] at e; exact s2 b o (by simpa using e)
  | some x => rw [hb] at e; simp at e; subst e; exact s1 b x hb
end Hpm
open Hpm
def star (P Q : HProp) : HProp := fun h => ∃ h1 h2, disj h1 h2 ∧ h = union h1 h2 ∧ P h1 ∧ Q h2
instance : Mul HProp := ⟨star⟩
theorem star_comm (P Q : HProp) : P * Q = Q * P := by
  funext h
  apply propext
  constructor <;> rintro ⟨h1, h2, d, rfl, p, q⟩ <;> exact ⟨h2, h1, disj_symm d, union_comm d, q, p⟩
theorem star_assoc (P Q R : HProp) : (P * Q) * R = P * (Q * R) := by
  funext h
  apply propext
  constructor
  · rintro ⟨h12, h3, d, rfl, ⟨h1, h2, d', rfl, p, q⟩, r⟩
    have := disj_union_left.1 d
    exact ⟨h1, union h2 h3, disj_union_right.2 ⟨d', this.1⟩, union_assoc _ _ _, p, h2, h3, this.2, rfl, q, r⟩
  · rintro ⟨h1, h23, d, rfl, p, ⟨h2, h3, d', rfl, q, r⟩⟩
    have := disj_union_right.1 d
    exact ⟨union h1 h2, h3, disj_union_left.2 ⟨this.2, d'⟩, (union_assoc _ _ _).symm, ⟨h1, h2, this.1, rfl, p, q⟩, r⟩
theorem star_left_comm (P Q R : HProp) : P * (Q * R) = Q * (P * R) := by
  rw [← star_assoc, star_comm P Q, star_assoc]
/-- The world has at least these blocks, so. -/
def Has (w : World) (P : HProp) : Prop := ∃ h : Hp, sub h (fun b => w.heap[b]?) ∧ P h
def lift (p : Prop) : HProp := fun h => p ∧ h = emp
def ex {α : Type} (P : α → HProp) : HProp := fun h => ∃ x, P x h
def blk (b : Nat) (cs : Array Value) (t : TypeId) : HProp := fun h => h = single b (.cells cs t (0, 0))
/-- All blocks below B are as they were in w0. -/
def old (w0 : World) (B : Nat) : HProp := fun h => h = fun b => if b < B then w0.heap[b]? else none
section
variable {w w' : World} {P Q R S : HProp}
theorem Has.imp (h : Has w P) (i : ∀ x, P x → Q x) : Has w Q := let ⟨x, s, p⟩ := h; ⟨x, s, i x p⟩
theorem Has.eq (h : Has w P) (e : P = Q) : Has w Q := e ▸ h
theorem Has.left (h : Has w (P * Q)) : Has w P := by
  obtain ⟨_, s, h1, h2, d, rfl, p, q⟩ := h
  exact ⟨h1, sub_union_left s, p⟩
theorem Has.right (h : Has w (P * Q)) : Has w Q := by
  obtain ⟨_, s, h1, h2, d, rfl, p, q⟩ := h
  exact ⟨h2, sub_union_right d s, q⟩
theorem Has.swap (h : Has w (P * Q)) : Has w (Q * P) := star_comm P Q ▸ h
theorem Has.a1 (h : Has w ((P * Q) * R)) : Has w (P * (Q * R)) := star_assoc P Q R ▸ h
theorem Has.a2 (h : Has w (P * (Q * R))) : Has w ((P * Q) * R) := by rw [star_assoc]; exact h
/-- The second of three comes first. -/
theorem Has.p2 (h : Has w (P * (Q * R))) : Has w (Q * (P * R)) := star_left_comm P Q R ▸ h
theorem Has.imp_left (h : Has w (P * R)) (i : ∀ x, P x → Q x) : Has w (Q * R) := h.imp fun _ ⟨h1, h2, d, e, p, q⟩ => ⟨h1, h2, d, e, i _ p, q⟩
theorem has_lift {p : Prop} : Has w (lift p * P) ↔ p ∧ Has w P := by
  constructor
  · intro h
    refine ⟨?_, h.right⟩
    obtain ⟨_, _, h1, _, _, _, ⟨hp, _⟩, _⟩ := h
    exact hp
  · rintro ⟨hp, x, s, q⟩
    exact ⟨x, s, emp, x, fun b => .inl rfl, by funext b; simp [union, emp], ⟨hp, rfl⟩, q⟩
theorem ex_star {α : Type} (F : α → HProp) : ex F * P = ex fun x => F x * P := by
  funext h
  apply propext
  constructor
  · rintro ⟨h1, h2, d, e, ⟨x, p⟩, q⟩
    exact ⟨x, h1, h2, d, e, p, q⟩
  · rintro ⟨x, h1, h2, d, e, p, q⟩
    exact ⟨h1, h2, d, e, ⟨x, p⟩, q⟩
theorem has_ex {α : Type} {F : α → HProp} : Has w (ex F) ↔ ∃ x, Has w (F x) := by
  constructor
  · rintro ⟨h, s, x, p⟩
    exact ⟨x, h, s, p⟩
  · rintro ⟨x, h, s, p⟩
    exact ⟨h, s, x, p⟩
theorem has_ex_star {α : Type} {F : α → HProp} : Has w (ex F * P) ↔ ∃ x, Has w (F x * P) := by rw [ex_star, has_ex]
theorem Has.heap {b : Nat} {cs : Array Value} {t : TypeId} (h : Has w (blk b cs t * R)) : w.heap[b]? = some (.cells cs t (0, 0)) := by
  obtain ⟨_, s, h1, h2, d, rfl, rfl, q⟩ := h
  exact s b _ (by simp [union, single])
theorem Has.lt {b : Nat} {cs : Array Value} {t : TypeId} (h : Has w (blk b cs t * R)) : b < w.heap.size := (Array.getElem?_eq_some_iff.1 h.heap).1
theorem Has.cell {b : Nat} {cs : Array Value} {t : TypeId} (h : Has w (blk b cs t * R)) (i : Nat) : w.cell? ⟨b, i, none⟩ = cs[i]? := cell_of_row w b i cs t (0, 0) h.heap
theorem Has.free {b : Nat} {cs : Array Value} {t : TypeId} (h : Has w (blk b cs t * R)) (i : Nat) : w.frozen? ⟨b, i, none⟩ = false := by
  have := h.heap
  simp [World.frozen?, this]
theorem Has.ne {b b' : Nat} {cs cs' : Array Value} {t t' : TypeId} (h : Has w (blk b cs t * (blk b' cs' t' * R))) : b ≠ b' := by
  rintro rfl
  obtain ⟨_, s, h1, h2, d, rfl, rfl, h3, h4, d', rfl, rfl, q⟩ := h
  rcases d b with e | e <;> simp [single, union] at e
theorem Has.cells4 {b : Nat} {v0 v1 v2 v3 : Value} {t : TypeId} (h : Has w (blk b #[v0, v1, v2, v3] t * R)) :
    w.cell? ⟨b, 0, none⟩ = some v0 ∧ w.cell? ⟨b, 1, none⟩ = some v1 ∧ w.cell? ⟨b, 2, none⟩ = some v2 ∧ w.cell? ⟨b, 3, none⟩ = some v3 :=
  ⟨h.cell 0, h.cell 1, h.cell 2, h.cell 3⟩
theorem Has.drop3 {A B X O : HProp} (h : Has w (A * (B * (X * O)))) : Has w (A * (B * O)) :=
  (h.eq (show _ = X * (A * (B * O)) by simp only [star_left_comm])).right
theorem Has.drop4 {A B C X O : HProp} (h : Has w (A * (B * (C * (X * O))))) : Has w (A * (B * (C * O))) :=
  (h.eq (show _ = X * (A * (B * (C * O))) by simp only [star_left_comm])).right
theorem Has.frees4 {b : Nat} {v0 v1 v2 v3 : Value} {t : TypeId} (h : Has w (blk b #[v0, v1, v2, v3] t * R)) :
    w.frozen? ⟨b, 0, none⟩ = false ∧ w.frozen? ⟨b, 1, none⟩ = false ∧ w.frozen? ⟨b, 2, none⟩ = false ∧ w.frozen? ⟨b, 3, none⟩ = false :=
  ⟨h.free 0, h.free 1, h.free 2, h.free 3⟩
theorem Has.frees3 {b : Nat} {v0 v1 v2 : Value} {t : TypeId} (h : Has w (blk b #[v0, v1, v2] t * R)) :
    w.frozen? ⟨b, 0, none⟩ = false ∧ w.frozen? ⟨b, 1, none⟩ = false ∧ w.frozen? ⟨b, 2, none⟩ = false :=
  ⟨h.free 0, h.free 1, h.free 2⟩
theorem Has.cells6 {b : Nat} {v0 v1 v2 v3 v4 v5 : Value} {t : TypeId} (h : Has w (blk b #[v0, v1, v2, v3, v4, v5] t * R)) :
    w.cell? ⟨b, 0, none⟩ = some v0 ∧ w.cell? ⟨b, 1, none⟩ = some v1 ∧ w.cell? ⟨b, 2, none⟩ = some v2 ∧ w.cell? ⟨b, 3, none⟩ = some v3 ∧ w.cell? ⟨b, 4, none⟩ = some v4 ∧ w.cell? ⟨b, 5, none⟩ = some v5 :=
  ⟨h.cell 0, h.cell 1, h.cell 2, h.cell 3, h.cell 4, h.cell 5⟩
theorem Has.cells5 {b : Nat} {v0 v1 v2 v3 v4 : Value} {t : TypeId} (h : Has w (blk b #[v0, v1, v2, v3, v4] t * R)) :
    w.cell? ⟨b, 0, none⟩ = some v0 ∧ w.cell? ⟨b, 1, none⟩ = some v1 ∧ w.cell? ⟨b, 2, none⟩ = some v2 ∧ w.cell? ⟨b, 3, none⟩ = some v3 ∧ w.cell? ⟨b, 4, none⟩ = some v4 :=
  ⟨h.cell 0, h.cell 1, h.cell 2, h.cell 3, h.cell 4⟩
theorem Has.cells3 {b : Nat} {v0 v1 v2 : Value} {t : TypeId} (h : Has w (blk b #[v0, v1, v2] t * R)) :
    w.cell? ⟨b, 0, none⟩ = some v0 ∧ w.cell? ⟨b, 1, none⟩ = some v1 ∧ w.cell? ⟨b, 2, none⟩ = some v2 :=
  ⟨h.cell 0, h.cell 1, h.cell 2⟩
theorem Has.cells2 {b : Nat} {v0 v1 : Value} {t : TypeId} (h : Has w (blk b #[v0, v1] t * R)) :
    w.cell? ⟨b, 0, none⟩ = some v0 ∧ w.cell? ⟨b, 1, none⟩ = some v1 :=
  ⟨h.cell 0, h.cell 1⟩
theorem Has.cells9 {b : Nat} {v0 v1 v2 v3 v4 v5 v6 v7 v8 : Value} {t : TypeId} (h : Has w (blk b #[v0, v1, v2, v3, v4, v5, v6, v7, v8] t * R)) :
    w.cell? ⟨b, 0, none⟩ = some v0 ∧ w.cell? ⟨b, 1, none⟩ = some v1 ∧ w.cell? ⟨b, 2, none⟩ = some v2 ∧ w.cell? ⟨b, 3, none⟩ = some v3 ∧ w.cell? ⟨b, 4, none⟩ = some v4 ∧ w.cell? ⟨b, 5, none⟩ = some v5 ∧
      w.cell? ⟨b, 6, none⟩ = some v6 ∧ w.cell? ⟨b, 7, none⟩ = some v7 ∧ w.cell? ⟨b, 8, none⟩ = some v8 :=
  ⟨h.cell 0, h.cell 1, h.cell 2, h.cell 3, h.cell 4, h.cell 5, h.cell 6, h.cell 7, h.cell 8⟩
/-- The heart: what becomes of the rest when one block of its own turns. -/
theorem Has.upd {b : Nat} {cs : Array Value} {t : TypeId} (h : Has w (blk b cs t * R)) {cs' : Array Value} {t' : TypeId}
    (hb : w'.heap[b]? = some (.cells cs' t' (0, 0))) (ho : ∀ k, k < w.heap.size → k ≠ b → w'.heap[k]? = w.heap[k]?) : Has w' (blk b cs' t' * R) := by
  obtain ⟨_, s, h1, h2, d, rfl, rfl, q⟩ := h
  refine ⟨union (single b (.cells cs' t' (0, 0))) h2, ?_, _, _, ?_, rfl, rfl, q⟩
  · refine sub_union ?_ ?_
    · intro k o e
      simp only [single] at e
      split at e
      · rename_i hk; subst hk; simp at e; subst e; exact hb
      · cases e
    · intro k o e
      have hk : k ≠ b := by
        rintro rfl
        rcases d k with e' | e'
        · simp [single] at e'
        · rw [e'] at e; cases e
      have h0 := sub_union_right d s k o e
      have hlt : k < w.heap.size := (Array.getElem?_eq_some_iff.1 h0).1
      show w'.heap[k]? = some o
      rw [ho k hlt hk]
      exact h0
  · intro k
    rcases d k with e | e
    · left; simp only [single] at e ⊢; split at e <;> simp_all
    · right; exact e
/-- What stands is still there behind anything that turns no block that was there. -/
theorem Has.keep (h : Has w P) (ho : ∀ k, k < w.heap.size → w'.heap[k]? = w.heap[k]?) : Has w' P := by
  obtain ⟨x, s, p⟩ := h
  refine ⟨x, fun k o e => ?_, p⟩
  have h0 := s k o e
  have hlt : k < w.heap.size := (Array.getElem?_eq_some_iff.1 h0).1
  show w'.heap[k]? = some o
  rw [ho k hlt]
  exact h0
theorem Has.below (h : Has w P) (hb : Below w.heap.size w w') : Has w' P := h.keep hb.block
theorem Has.drew (h : Has w P) : Has w.drew P := h
theorem Has.drewN (h : Has w P) (n : Nat) : Has (w.drewN n) P := h
theorem Has.alloc (h : Has w P) (o : Obj) : Has (w.alloc o) P := h.keep fun k hk => Below.heap_alloc w o k hk
theorem Has.set {b : Nat} {cs : Array Value} {t : TypeId} (h : Has w (blk b cs t * R)) (i : Nat) (v : Value) :
    Has (w.setCell ⟨b, i, none⟩ v) (blk b (cs.setIfInBounds i v) t * R) :=
  h.upd (by have := h.heap; simp [World.setCell, Array.getElem?_modify, this]) fun k _ hk => Below.heap_setCell w _ v k hk
theorem Has.set4 {b : Nat} {v0 v1 v2 v3 : Value} {t : TypeId} (h : Has w (blk b #[v0, v1, v2, v3] t * R)) (u0 u1 u2 u3 : Value) :
    Has ((((w.setCell ⟨b, 0, none⟩ u0).setCell ⟨b, 1, none⟩ u1).setCell ⟨b, 2, none⟩ u2).setCell ⟨b, 3, none⟩ u3) (blk b #[u0, u1, u2, u3] t * R) :=
  (((h.set 0 u0).set 1 u1).set 2 u2).set 3 u3
theorem Has.set3 {b : Nat} {v0 v1 v2 : Value} {t : TypeId} (h : Has w (blk b #[v0, v1, v2] t * R)) (u0 u1 u2 : Value) :
    Has (((w.setCell ⟨b, 0, none⟩ u0).setCell ⟨b, 1, none⟩ u1).setCell ⟨b, 2, none⟩ u2) (blk b #[u0, u1, u2] t * R) := ((h.set 0 u0).set 1 u1).set 2 u2
/-- A new block: it is one's own from now on. -/
theorem Has.new (h : Has w P) (cs : Array Value) (t : TypeId) : Has (w.alloc (.cells cs t)) (blk w.heap.size cs t * P) := by
  obtain ⟨x, s, p⟩ := h
  have hx : x w.heap.size = none := by
    cases e : x w.heap.size with
    | none => rfl
    | some o =>
      have h0 := s _ _ e
      have hlt : w.heap.size < w.heap.size := (Array.getElem?_eq_some_iff.1 h0).1
      omega
  refine ⟨union (single w.heap.size (.cells cs t (0, 0))) x, ?_, _, _, ?_, rfl, rfl, p⟩
  · refine sub_union ?_ ?_
    · intro k o e
      simp only [single] at e
      split at e
      · rename_i hk; subst hk; simp at e; subst e; exact heap_alloc_new w _
      · cases e
    · intro k o e
      have h0 := s k o e
      have hlt : k < w.heap.size := (Array.getElem?_eq_some_iff.1 h0).1
      show (w.alloc _).heap[k]? = some o
      rw [Below.heap_alloc w _ k hlt]
      exact h0
  · intro k
    by_cases hk : k = w.heap.size
    · right; rw [hk]; exact hx
    · left; simp [single, hk]
theorem has_old (w : World) : Has w (old w w.heap.size) :=
  ⟨_, fun b o e => by dsimp only at e ⊢; split at e <;> simp_all, rfl⟩
theorem Has.oldAt {w0 : World} {B : Nat} (h : Has w (old w0 B * R)) {b : Nat} (hb : b < B) (hB : B ≤ w0.heap.size) : w.heap[b]? = w0.heap[b]? := by
  obtain ⟨_, s, h1, h2, d, rfl, rfl, q⟩ := h
  have hlt : b < w0.heap.size := by omega
  have : (fun b => if b < B then w0.heap[b]? else none) b = some w0.heap[b] := by simp [hb, hlt]
  have h0 : w.heap[b]? = some w0.heap[b] := s b w0.heap[b] (by simp only [union, this]; simp)
  rw [h0]
  simp [hlt]
theorem Has.oldCell {w0 : World} (h : Has w (old w0 w0.heap.size * R)) {a : Addr} (hb : a.block < w0.heap.size) : w.cell? a = w0.cell? a :=
  World.cell?_of_block (w := w0) (h.oldAt hb (Nat.le_refl _))
theorem Has.oldCell' {w0 : World} (h : Has w (old w0 w0.heap.size * R)) {a : Addr} {v : Value} (hb : w0.cell? a = some v) : w.cell? a = some v :=
  (h.oldCell (World.block_lt_of_cell? w0 a hb)).trans hb
end
/-- Of all that is no block nothing has turned. -/
structure Ext (w w' : World) : Prop where
  os : w'.os = w.os
  tape : w'.tape = w.tape
  output : w'.output = w.output
  size : w.heap.size ≤ w'.heap.size
theorem Ext.refl (w : World) : Ext w w := ⟨rfl, rfl, rfl, Nat.le_refl _⟩
theorem Ext.trans {a b c : World} (h : Ext a b) (k : Ext b c) : Ext a c := ⟨k.os.trans h.os, k.tape.trans h.tape, k.output.trans h.output, Nat.le_trans h.size k.size⟩
theorem Ext.drew {a w : World} (h : Ext a w) : Ext a w.drew := ⟨h.os, h.tape, h.output, h.size⟩
theorem Ext.drewN {a w : World} (h : Ext a w) (n : Nat) : Ext a (w.drewN n) := ⟨h.os, h.tape, h.output, h.size⟩
theorem Ext.alloc {a w : World} (h : Ext a w) (o : Obj) : Ext a (w.alloc o) := ⟨h.os, h.tape, h.output, Nat.le_trans h.size (by simp)⟩
theorem Ext.set {a w : World} (h : Ext a w) (p : Addr) (v : Value) : Ext a (w.setCell p v) := ⟨h.os, h.tape, h.output, by simpa [World.setCell] using h.size⟩
theorem Ext.below {a w w' : World} {B : Nat} (h : Ext a w) (k : Below B w w') : Ext a w' := h.trans ⟨k.os, k.tape, k.output, k.size⟩
theorem Ext.grown {a w w' : World} {row : Option Nat} (h : Ext a w) (k : w.grownBy w' row) : Ext a w' := h.trans ⟨k.os, k.tape, k.output, k.size⟩
theorem Ext.setRow {a w : World} (h : Ext a w) (g : Nat) (cs : Array Value) : Ext a (w.setRow g cs) := ⟨h.os, h.tape, h.output, by simpa [World.setRow] using h.size⟩
/-- The end of a law: all that was there is there. -/
theorem below_of {w0 w : World} {R : HProp} (h : Has w (old w0 w0.heap.size * R)) (e : Ext w0 w) : Below w0.heap.size w0 w :=
  ⟨e.os, e.tape, e.output, e.size, fun _ hk => h.oldAt hk (Nat.le_refl _)⟩
theorem below_of1 {w0 w : World} (h : Has w (old w0 w0.heap.size)) (e : Ext w0 w) : Below w0.heap.size w0 w :=
  below_of (R := lift True) (Has.swap (has_lift.2 ⟨trivial, h⟩)) e
/-! ### What a call comes to, behind names that a walk does not open -/
/-- It returns v; memory is Q then. -/
def Res (v : Value) (Q : HProp) (w : World) (e : Ending) (w' : World) : Prop := e = .returned v ∧ Has w' Q ∧ Ext w w'
/-- It returns v; nothing that was there has turned. -/
def Pure (v : Value) (w : World) (e : Ending) (w' : World) : Prop := e = .returned v ∧ Below w.heap.size w w'
/-- It returns v; the world is the very same. -/
def Same (v : Value) (w : World) (e : Ending) (w' : World) : Prop := e = .returned v ∧ w = w'
/-! ### Slices of the call's own -/
/-- The slice value v, of n elements of type e (size cells each), nil or at the head of a row of its own, whose first cells are xs. -/
def row (e size : Nat) (v : Value) (n : Nat) (xs : List Value) : HProp := fun h =>
  xs.length = n * size ∧
  ((v = .slice none 0 0 ∧ n = 0 ∧ h = emp) ∨
   ∃ g cap cur, v = .slice (some ⟨g, 0, none⟩) n cap ∧ n ≤ cap ∧ cap ≤ maxLen ∧ cur.size = cap * size ∧ cur.toList.take (n * size) = xs ∧ blk g cur e h)
section
variable {w w' : World} {P Q R S : HProp} {e size : Nat} {v : Value} {n : Nat} {xs : List Value}
theorem Has.ownsRow (h : Has w (row e size v n xs * R)) : w.ownsRow 0 e size v n xs := by
  obtain ⟨_, s, h1, h2, d, rfl, ⟨hl, h0 | ⟨g, cap, cur, rfl, hn, hc, hs, ht, rfl⟩⟩, q⟩ := h
  · exact ⟨hl, .inl ⟨h0.1, h0.2.1⟩⟩
  · exact ⟨hl, .inr ⟨g, cap, cur, rfl, Nat.zero_le _, s g _ (by simp [union, single]), hn, hc, hs, ht⟩⟩
theorem Has.rowNil (h : Has w R) : Has w (row e size (.slice none 0 0) 0 [] * R) := by
  obtain ⟨x, s, q⟩ := h
  exact ⟨x, s, emp, x, fun _ => .inl rfl, by funext b; simp [union, emp], ⟨by simp, .inl ⟨rfl, rfl, rfl⟩⟩, q⟩
/-- A row under a nil or another value: as a block, where it is one. -/
theorem Has.rowCases (h : Has w (row e size v n xs * R)) :
    (v = .slice none 0 0 ∧ n = 0 ∧ xs = [] ∧ Has w R) ∨
    ∃ g cap cur, v = .slice (some ⟨g, 0, none⟩) n cap ∧ n ≤ cap ∧ cap ≤ maxLen ∧ cur.size = cap * size ∧ cur.toList.take (n * size) = xs ∧ Has w (blk g cur e * R) := by
  have hr := h.right
  obtain ⟨_, s, h1, h2, d, rfl, ⟨hl, h0 | ⟨g, cap, cur, rfl, hn, hc, hs, ht, hb⟩⟩, q⟩ := h
  · obtain ⟨rfl, rfl, rfl⟩ := h0
    exact .inl ⟨rfl, rfl, by simpa using hl, hr⟩
  · exact .inr ⟨g, cap, cur, rfl, hn, hc, hs, ht, _, s, h1, h2, d, rfl, hb, q⟩
theorem Has.rowOf {g cap : Nat} {cur : Array Value} (h : Has w (blk g cur e * R)) (hl : xs.length = n * size) (hn : n ≤ cap) (hc : cap ≤ maxLen) (hs : cur.size = cap * size)
    (ht : cur.toList.take (n * size) = xs) : Has w (row e size (.slice (some ⟨g, 0, none⟩) n cap) n xs * R) :=
  h.imp_left fun _ hb => ⟨hl, .inr ⟨g, cap, cur, rfl, hn, hc, hs, ht, hb⟩⟩
/-- Behind a law that ends in 'ownsRow' and 'grownBy' (append): the row in its new state, all else as it was. -/
theorem Has.rowGrown {v' : Value} {n' : Nat} {xs' : List Value} (h : Has w (row e size v n xs * R)) {base : Nat} (ho : w'.ownsRow base e size v' n' xs') (hg : w.grownBy w' v.ownBlock)
    (hb : v'.ownBlock = v.ownBlock ∨ ∀ k, v'.ownBlock = some k → w.heap.size ≤ k) : Has w' (row e size v' n' xs' * R) := by
  rcases ho.2 with ⟨rfl, rfl⟩ | ⟨g, cap, cur, rfl, _, hh, hn, hc, hs, ht⟩
  · have hx : xs' = [] := by simpa using ho.1
    subst hx
    refine Has.rowNil ?_
    rcases h.rowCases with ⟨rfl, _, _, hR⟩ | ⟨g, cap, cur, rfl, _, _, _, _, hB⟩
    · exact hR.keep fun k hk => hg.block k hk (by simp [Value.ownBlock])
    · have hgl := hB.lt
      have hk := (hB.upd (w' := w.setRow g cur) (cs' := cur) (t' := e) (setRow_heap w g cur cur e (0, 0) hB.heap) (fun k _ hk => setRow_other w g k cur hk))
      clear hk
      obtain ⟨_, s, h1, h2, d, rfl, rfl, q⟩ := hB
      refine ⟨h2, fun k o hk => ?_, q⟩
      have hne : k ≠ g := by
        rintro rfl
        rcases d k with e' | e'
        · simp [single] at e'
        · rw [e'] at hk; cases hk
      have h0 := sub_union_right d s k o hk
      have hlt : k < w.heap.size := (Array.getElem?_eq_some_iff.1 h0).1
      show w'.heap[k]? = some o
      rw [hg.block k hlt (by simp [Value.ownBlock, hne])]
      exact h0
  · refine Has.rowOf (g := g) (cap := cap) (cur := cur) ?_ ho.1 hn hc hs ht
    rcases h.rowCases with ⟨rfl, _, _, hR⟩ | ⟨g0, cap0, cur0, rfl, _, _, _, _, hB⟩
    · -- the old one was nil: the new row lies behind all that was there
      have hge : w.heap.size ≤ g := by
        rcases hb with hb | hb
        · simp [Value.ownBlock] at hb
        · exact hb g rfl
      obtain ⟨x, s, q⟩ := hR
      refine ⟨union (single g (.cells cur e (0, 0))) x, ?_, _, _, ?_, rfl, rfl, q⟩
      · refine sub_union ?_ ?_
        · intro k o hk
          simp only [single] at hk
          split at hk
          · rename_i hkk; subst hkk; simp at hk; subst hk; exact hh
          · cases hk
        · intro k o hk
          have h0 := s k o hk
          have hlt : k < w.heap.size := (Array.getElem?_eq_some_iff.1 h0).1
          show w'.heap[k]? = some o
          rw [hg.block k hlt (by simp [Value.ownBlock])]
          exact h0
      · intro k
        by_cases hk : k = g
        · right
          cases hx : x k with
          | none => rfl
          | some o =>
            have h0 := s _ _ hx
            have hlt : k < w.heap.size := (Array.getElem?_eq_some_iff.1 h0).1
            omega
        · left; simp [single, hk]
    · by_cases hgg : g = g0
      · subst hgg
        exact hB.upd hh fun k hk hne => hg.block k hk (by simp [Value.ownBlock, hne])
      · have hge : w.heap.size ≤ g := by
          rcases hb with hb | hb
          · simp [Value.ownBlock] at hb; exact absurd hb hgg
          · exact hb g rfl
        obtain ⟨_, s, h1, h2, d, rfl, rfl, q⟩ := hB
        refine ⟨union (single g (.cells cur e (0, 0))) h2, ?_, _, _, ?_, rfl, rfl, q⟩
        · refine sub_union ?_ ?_
          · intro k o hk
            simp only [single] at hk
            split at hk
            · rename_i hkk; subst hkk; simp at hk; subst hk; exact hh
            · cases hk
          · intro k o hk
            have hne : k ≠ g0 := by
              rintro rfl
              rcases d k with e' | e'
              · simp [single] at e'
              · rw [e'] at hk; cases hk
            have h0 := sub_union_right d s k o hk
            have hlt : k < w.heap.size := (Array.getElem?_eq_some_iff.1 h0).1
            show w'.heap[k]? = some o
            rw [hg.block k hlt (by simp [Value.ownBlock, hne])]
            exact h0
        · intro k
          by_cases hk : k = g
          · right
            cases hx : h2 k with
            | none => rfl
            | some o =>
              have h0 := sub_union_right d s _ _ hx
              have hlt : k < w.heap.size := (Array.getElem?_eq_some_iff.1 h0).1
              omega
          · left; simp [single, hk]
end
/-- What the laws on append and make ask of an element's type. -/
structure Elem (P : Program) (e : TypeId) (z : Value) (size bytes : Nat) : Prop where
  info : (P.info? e).map (fun i => (i.zero, i.size, i.bytes)) = some (some z, size, bytes)
  cells : z.cells.size = size
  pos : 0 < size
section
variable {P : Program} {w : World} {R : HProp}
theorem run_append_has {t ty e : TypeId} {z : Value} {size bytes : Nat} (hT : P.underlying t = some (.slice e)) (hE : Elem P e z size bytes)
    (v : Value) (n : Nat) (xs : List Value) (h : Has w (row e size v n xs * R))
    (ad : Addr) (m c : Nat) (news : List Value) (hl : news.length = m * size) (hnews : ∀ j u, news[j]? = some u → w.cell? (ad.add j) = some u) (h1 : ∀ u ∈ news, u.oneCell' = true)
    (h63 : n + m ≤ maxLen) (hbytes : (n + m) * bytes ≤ 140737488355328) :
    ∃ v' w', (Builtin.append_ #[t, t] ty #[v, .slice (some ad) m c]).run P w = .ok v' w' ∧ Has w' (row e size v' (n + m) (xs ++ news) * R) ∧ Ext w w' := by
  obtain ⟨i, hi, hz, hs, hb⟩ := info_parts hE.info
  obtain ⟨v', w', hr, ho, hg, _, hbk⟩ := run_append_own_at (P := P) w 0 t ty e i z size bytes hT hi hz hs hb hE.cells hE.pos v n xs h.ownsRow ad m c news hl hnews h1 h63 hbytes (Nat.zero_le _)
  refine ⟨v', w', hr, h.rowGrown ho hg ?_, (Ext.refl w).grown hg⟩
  rcases hbk with hbk | hbk
  · exact .inl hbk
  · exact .inr fun k hk => by rw [hbk] at hk; injection hk with hk; omega
theorem wp_append_has {o : Oper} {a : Act} {K : Act → World → Prop} {Q : Exit → Act → World → Prop} (s x : Operand) (t : TypeId)
    (ho : o.op = .call { callee := .builtin .append, args := #[s, x], argTypes := #[t, t] }) {e : TypeId} {z : Value} {size bytes : Nat} (hT : P.underlying t = some (.slice e)) (hE : Elem P e z size bytes)
    (v : Value) (n : Nat) (xs : List Value) (hs : a.eval s = v) (h : Has w (row e size v n xs * R))
    (ad : Addr) (m c : Nat) (news : List Value) (hx : a.eval x = .slice (some ad) m c) (hl : news.length = m * size) (hnews : ∀ j u, news[j]? = some u → w.cell? (ad.add j) = some u) (h1 : ∀ u ∈ news, u.oneCell' = true)
    (h63 : n + m ≤ maxLen) (hbytes : (n + m) * bytes ≤ 140737488355328)
    (hk : ∀ v' w', Has w' (row e size v' (n + m) (xs ++ news) * R) → Ext w w' → K (a.put o.dst v') w') : o.wp P a w K Q := by
  obtain ⟨v', w', hr, h2, h3⟩ := run_append_has (ty := o.type) hT hE v n xs h ad m c news hl hnews h1 h63 hbytes
  unfold Oper.wp execOp
  simp only [ho, resolve, invoke, builtin, Sem.run_bind, Sem.run_pure, Result.andThen_ok, List.map_toArray, List.map_cons, List.map_nil, hs, hx, hr]
  exact hk v' w' h2 h3
/-- 'append' onto a row of one's own, at the operation. -/
theorem wpList_append_has {ops : Array Oper} {rest : List Oper} {o : Oper} {a : Act} {Q : Exit → Act → World → Prop} (hgd : o.guard = none) (s x : Operand) (t : TypeId)
    (ho : o.op = .call { callee := .builtin .append, args := #[s, x], argTypes := #[t, t] }) {e : TypeId} {z : Value} {size bytes : Nat} (hT : P.underlying t = some (.slice e)) (hE : Elem P e z size bytes)
    (v : Value) (n : Nat) (xs : List Value) (hs : a.eval s = v) (h : Has w (row e size v n xs * R))
    (ad : Addr) (m c : Nat) (news : List Value) (hx : a.eval x = .slice (some ad) m c) (hl : news.length = m * size) (hnews : ∀ j u, news[j]? = some u → w.cell? (ad.add j) = some u) (h1 : ∀ u ∈ news, u.oneCell' = true)
    (h63 : n + m ≤ maxLen) (hbytes : (n + m) * bytes ≤ 140737488355328)
    (hk : ∀ v' w', Has w' (row e size v' (n + m) (xs ++ news) * R) → Ext w w' → wpList P ops Q rest (a.put o.dst v') w') : wpList P ops Q (o :: rest) a w :=
  wpList_plain hgd fun _ hK => wp_append_has s x t ho hT hE v n xs hs h ad m c news hx hl hnews h1 h63 hbytes fun v' w' h2 h3 => hK _ _ (hk v' w' h2 h3)
/-- One new cell at the head of a new block. -/
theorem news_one (w : World) (u : Value) (e : TypeId) : ∀ j x, ([u] : List Value)[j]? = some x → (w.alloc (.cells #[u] e)).cell? ((⟨w.heap.size, 0, none⟩ : Addr).add j) = some x := by
  intro j x hj
  match j, hj with
  | 0, hj => simp at hj; subst hj; rw [show ((⟨w.heap.size, 0, none⟩ : Addr).add 0) = ⟨w.heap.size, 0, none⟩ from rfl, cell_of_row _ _ 0 #[u] e (0, 0) (heap_alloc_new w _)]; rfl
/-- So many new cells at the head of a new block. -/
theorem news_many (w : World) (us : List Value) (e : TypeId) : ∀ j x, us[j]? = some x → (w.alloc (.cells us.toArray e)).cell? ((⟨w.heap.size, 0, none⟩ : Addr).add j) = some x := by
  intro j x hj
  have e1 : ((⟨w.heap.size, 0, none⟩ : Addr).add j) = ⟨w.heap.size, j, none⟩ := by unfold Addr.add; split <;> simp_all
  rw [e1, cell_of_row _ _ j us.toArray e (0, 0) (heap_alloc_new w _)]
  simpa using hj
end
/-- The slice value v, of n elements of one cell each, reads xs. -/
def Rd (w : World) (A : Option Addr) (n : Nat) (xs : List Value) : Prop :=
  xs.length = n ∧ n ≤ 9223372036854775807 ∧ ∀ j u, xs[j]? = some u → ∃ b off, A = some ⟨b, off, none⟩ ∧ b < w.heap.size ∧ w.cell? ⟨b, off + j, none⟩ = some u
theorem Rd.at_ {w : World} {A : Option Addr} {n j : Nat} {xs : List Value} {u : Value} (h : Rd w A n xs) (hu : xs[j]? = some u) : ∃ b off, A = some ⟨b, off, none⟩ ∧ b < w.heap.size ∧ w.cell? ⟨b, off + j, none⟩ = some u := h.2.2 j u hu
theorem Rd.below {w w' : World} {A : Option Addr} {n : Nat} {xs : List Value} (h : Rd w A n xs) (hb : Below w.heap.size w w') : Rd w' A n xs :=
  ⟨h.1, h.2.1, fun j u hu => by
    obtain ⟨b, off, e, hl, hc⟩ := h.2.2 j u hu
    exact ⟨b, off, e, Nat.lt_of_lt_of_le hl hb.size, (hb.cell (p := ⟨b, off + j, none⟩) hl).trans hc⟩⟩
theorem Has.rowForm {w : World} {R : HProp} {e size : TypeId} {v : Value} {n : Nat} {xs : List Value} (h : Has w (row e size v n xs * R)) : ∃ A c, v = .slice A n c := by
  rcases h.rowCases with ⟨hv, rfl, _, _⟩ | ⟨g, cap, cur, hv, _⟩
  · exact ⟨_, _, hv⟩
  · exact ⟨_, _, hv⟩
/-- The slice of n elements at A reads ls: each element its cells. -/
def Arr (w : World) (A : Option Addr) (n size : Nat) (ls : List (List Value)) : Prop :=
  ls.length = n ∧ n ≤ 9223372036854775807 ∧ ∀ i xs, ls[i]? = some xs → ∃ b off, A = some ⟨b, off, none⟩ ∧ b < w.heap.size ∧ ∀ j u, xs[j]? = some u → w.cell? ⟨b, off + i * size + j, none⟩ = some u
theorem Arr.at_ {w : World} {A : Option Addr} {n size i : Nat} {ls : List (List Value)} {xs : List Value} (h : Arr w A n size ls) (hi : ls[i]? = some xs) :
    ∃ b off, A = some ⟨b, off, none⟩ ∧ b < w.heap.size ∧ ∀ j u, xs[j]? = some u → w.cell? ⟨b, off + i * size + j, none⟩ = some u := h.2.2 i xs hi
theorem Arr.old {w0 w : World} {R : HProp} {A : Option Addr} {n size : Nat} {ls : List (List Value)} (h : Arr w0 A n size ls) (ho : Has w (old w0 w0.heap.size * R)) (e : Ext w0 w) : Arr w A n size ls :=
  ⟨h.1, h.2.1, fun i xs hi => by
    obtain ⟨b, off, ha, hb, hc⟩ := h.2.2 i xs hi
    exact ⟨b, off, ha, Nat.lt_of_lt_of_le hb e.size, fun j u hu => ho.oldCell' (hc j u hu)⟩⟩
theorem Has.one {w : World} {P : HProp} (h : Has w P) : Has w (P * lift True) := Has.swap (has_lift.2 ⟨trivial, h⟩)
theorem Arr.old1 {w0 w : World} {A : Option Addr} {n size : Nat} {ls : List (List Value)} (h : Arr w0 A n size ls) (ho : Has w (Go.Proofs.Ytmfheghbgihdmaa.old w0 w0.heap.size)) (e : Ext w0 w) : Arr w A n size ls := h.old ho.one e
/-- A callee that leaves the world alone, inside a region that draws. -/
theorem Same.quiet {P : Program} {f : FuncId} {args : Array Value} {w : World} {n : Nat} {v : Value} (h : Calls P f args (w.drewN n) (Same v (w.drewN n))) :
    Calls P f args (w.drewN n) fun e w'' => e = .returned v ∧ ∃ m, w'' = w.drewN m :=
  h.mono fun _ _ ⟨he, hw⟩ => ⟨he, n, hw.symm⟩
/-! ### A region that draws its order, whose operations read and call what leaves all that was there -/
open Classical in
/-- u, if it leaves all that was in w; else w itself. -/
noncomputable def via (w u : World) : World := if Below w.heap.size w u then u else w
theorem via_below (w u : World) : Below w.heap.size w (via w u) := by
  unfold via
  split
  · assumption
  · exact Below.refl _ _
theorem via_of {w u : World} (h : Below w.heap.size w u) : ∃ x, u = via w x := ⟨u, by unfold via; rw [if_pos h]⟩
theorem via_cell {w : World} {a : Addr} {v : Value} (h : w.cell? a = some v) (u : World) : (via w u).cell? a = some v :=
  ((via_below w u).cell (World.block_lt_of_cell? w a h)).trans h
theorem wp_region_via {P : Program} {id : Nat} {Q : Exit → Act → World → Prop} {a : Act} {w : World} {l : List Oper} (hm : P.follows .mixedOrders = true) (hB : Region.lexB .any l.toArray = true)
    (h : wpQuiet P l.toArray (fun w' => ∃ u, w' = via w u) (fun a' => ∀ w', (∃ u, w' = via w u) → Q .normal a' w') l a) : (Code.region id l.toArray true).wp P Q a w :=
  wp_region_quiet (C := fun w' => ∃ u, w' = via w u) hm hB (via_of ⟨rfl, rfl, rfl, Nat.le_refl _, fun _ _ => rfl⟩) (by simpa using h)
/-- A callee that leaves all that was there, inside such a region. -/
theorem Pure.via {P : Program} {f : FuncId} {args : Array Value} {w u : World} {v : Value} (h : Calls P f args (via w u) (Pure v (via w u))) :
    Calls P f args (Go.Proofs.Ytmfheghbgihdmaa.via w u) fun e w'' => e = .returned v ∧ ∃ x, w'' = Go.Proofs.Ytmfheghbgihdmaa.via w x :=
  h.mono fun _ _ ⟨he, hw⟩ => ⟨he, via_of ((via_below w u).trans (hw.mono (via_below w u).size))⟩
theorem Same.via {P : Program} {f : FuncId} {args : Array Value} {w u : World} {v : Value} (h : Calls P f args (via w u) (Same v (via w u))) :
    Calls P f args (Go.Proofs.Ytmfheghbgihdmaa.via w u) fun e w'' => e = .returned v ∧ ∃ x, w'' = Go.Proofs.Ytmfheghbgihdmaa.via w x :=
  h.mono fun _ _ ⟨he, hw⟩ => ⟨he, u, hw.symm⟩
theorem Has.via {w : World} {P : HProp} (h : Has w P) (u : World) : Has (via w u) P := h.below (via_below w u)
end Go.Proofs.Ytmfheghbgihdmaa
namespace Go.Proofs.Ytmfheghbgihdmaa
open Go.RowKit
/-- N cells, each by its place. -/
def tabA (N : Nat) (f : Nat → Value) : Array Value := (Array.range N).map f
theorem tabA_size (N : Nat) (f : Nat → Value) : (tabA N f).size = N := by simp [tabA]
theorem tabA_get {N j : Nat} {f : Nat → Value} (h : j < N) : (tabA N f)[j]? = some (f j) := by simp [tabA, h]
theorem tabA_ext {N : Nat} {f g : Nat → Value} (h : ∀ j, j < N → f j = g j) : tabA N f = tabA N g := by
  unfold tabA
  apply Array.ext
  · simp
  · intro i h1 h2
    simp at h1
    simp [h i h1]
def fput {α : Type} (f : Nat → α) (j : Nat) (v : α) : Nat → α := fun i => if i = j then v else f i
theorem fput_self {α : Type} (f : Nat → α) (j : Nat) (v : α) : fput f j v j = v := by simp [fput]
theorem fput_ne {α : Type} (f : Nat → α) {i j : Nat} (v : α) (h : i ≠ j) : fput f j v i = f i := by simp [fput, h]
theorem tabA_set (N : Nat) (f : Nat → Value) (j : Nat) (v : Value) : (tabA N f).setIfInBounds j v = tabA N (fput f j v) := by
  apply Array.ext
  · simp [tabA]
  · intro i h1 h2
    have hi : i < N := by simpa [tabA] using h2
    have e1 : ((tabA N f).setIfInBounds j v)[i]? = some (fput f j v i) := by
      rw [Array.getElem?_setIfInBounds]
      by_cases h : j = i
      · subst h
        simp [tabA_size, hi, fput]
      · rw [if_neg h, tabA_get hi, fput_ne _ _ (fun e => h e.symm)]
    have e2 := tabA_get (f := fput f j v) hi
    rw [Array.getElem?_eq_getElem h1] at e1
    rw [Array.getElem?_eq_getElem h2] at e2
    exact Option.some.inj (e1.trans e2.symm)
theorem tabA_made (z : Array Value) (N : Nat) : madeCells z N = tabA N (fun j => z[j % z.size]!) := rfl
section
variable {w w' : World} {R : HProp} {g e N : Nat} {f : Nat → Value}
theorem Has.tabGet (h : Has w (blk g (tabA N f) e * R)) {j : Nat} (hj : j < N) : w.cell? ⟨g, j, none⟩ = some (f j) := by rw [h.cell, tabA_get hj]
theorem Has.tabSet (h : Has w (blk g (tabA N f) e * R)) (j : Nat) (v : Value) : Has (w.setCell ⟨g, j, none⟩ v) (blk g (tabA N (fput f j v)) e * R) := by
  have := h.set j v
  rwa [tabA_set] at this
theorem Has.tabExt {f' : Nat → Value} (h : Has w (blk g (tabA N f) e * R)) (he : ∀ j, j < N → f j = f' j) : Has w (blk g (tabA N f') e * R) := tabA_ext he ▸ h
/-- A row of one-cell elements that is not empty: where it lies. -/
theorem Has.rowHead {v : Value} {n : Nat} {xs : List Value} (h : Has w (row e 1 v (n + 1) xs * R)) :
    ∃ g cap, v = .slice (some ⟨g, 0, none⟩) (n + 1) cap ∧ n + 1 ≤ cap ∧ cap ≤ maxLen ∧ g < w.heap.size ∧ ∀ x, xs[n]? = some x → w.cell? ⟨g, n, none⟩ = some x := by
  rcases h.rowCases with ⟨_, h0, _⟩ | ⟨g, cap, cur, hv, hn, hc, hs, ht, hb⟩
  · omega
  · refine ⟨g, cap, hv, hn, hc, hb.lt, fun x hx => ?_⟩
    rw [hb.cell, ← hx, ← ht]
    simp
theorem Has.rowPop {n cap : Nat} {xs : List Value} (h : Has w (row e 1 (.slice (some ⟨g, 0, none⟩) (n + 1) cap) (n + 1) xs * R)) : Has w (row e 1 (.slice (some ⟨g, 0, none⟩) n cap) n (xs.take n) * R) := by
  rcases h.rowCases with ⟨_, h0, _⟩ | ⟨g', cap', cur, hv, hn, hc, hs, ht, hb⟩
  · omega
  · injection hv with h1 h2 h3
    injection h1 with h1
    injection h1 with h1
    subst h1; subst h3
    refine hb.rowOf (xs := xs.take n) ?_ (by omega) hc hs ?_
    · rw [← ht]
      simp
      omega
    · rw [← ht]
      simp [List.take_take]
end
theorem Has.in2 {w : World} {A B C R : HProp} (h : Has w (A * (B * (C * R)))) : Has w (A * (C * (B * R))) := h.eq (congrArg _ (star_left_comm _ _ _))
/-- What 'make' asks of an element's type, and what it makes. -/
theorem run_make_tab {P : Program} (t e : TypeId) (z : Value) (size bytes : Nat) (ht : P.underlying t = some (.slice e)) (hinfo : (P.info? e).map (fun i => (i.zero, i.size, i.bytes)) = some (some z, size, bytes)) (hz : z.cells.size = size)
    (n : Nat) (hbytes : bytes * n ≤ 281474976710656) (h63 : n ≤ 9223372036854775807) (w : World) :
    (Instr.makeSlice t (.int .i64 (n : Int)) (.int .i64 (n : Int))).run P w = .ok (.slice (some ⟨w.heap.size, 0, none⟩) n n) (w.alloc (.cells (tabA (n * size) (fun j => z.cells[j % size]!)) e)) := by
  obtain ⟨i, hi, hzz⟩ := Option.map_eq_some_iff.1 hinfo
  simp only [Prod.mk.injEq] at hzz
  obtain ⟨hz', hs, hb⟩ := hzz
  subst hb
  have hb' : (i.bytes : Int) * (n : Int) ≤ 281474976710656 := by
    have h : ((i.bytes * n : Nat) : Int) ≤ 281474976710656 := by omega
    rwa [Int.natCast_mul] at h
  have hr := run_make (P := P) w t e i z ht hi hz' .i64 .i64 n n (by omega) (Int.le_refl _) hb' (by omega)
  simp only [Int.toNat_natCast, hs] at hr
  rw [hr, tabA_made, hz]
end Go.Proofs.Ytmfheghbgihdmaa
namespace Go.Proofs.Ytmfheghbgihdmaa
open Go.RowKit
structure Ms where
  n : Nat
  tk : Nat → Bool
  wd : Nat → Nat → Int
  next : Nat
  back : List Nat
/-- A list, by its last element. -/
theorem dl {l : List Nat} {x : Nat} (h : l.getLast? = some x) : l.dropLast ++ [x] = l := by
  obtain ⟨ys, rfl⟩ := List.getLast?_eq_some_iff.1 h
  simp
namespace Ms
def new (n : Nat) : Ms := ⟨n, fun _ => false, fun _ _ => 0, 0, []⟩
def frees (s : Ms) : List Nat := (List.range' s.next (s.n - s.next)).reverse ++ s.back
def top (s : Ms) : Option Nat := match s.back.getLast? with | some k => some k | none => if s.next < s.n then some s.next else none
def take (s : Ms) (k : Nat) : Ms := { n := s.n, tk := fput s.tk k true, wd := fun a b => if a = k then 0 else s.wd a b, next := if s.back = [] then s.next + 1 else s.next, back := s.back.dropLast }
def give (s : Ms) (k : Nat) : Ms := { s with tk := fput s.tk k false, back := s.back ++ [k] }
def setW (s : Ms) (k i : Nat) (v : Int) : Ms := { s with wd := fun a b => if a = k ∧ b = i then v else s.wd a b }
/-- Is a frame in use? -/
def has (s : Ms) (k : Int) : Bool := decide (0 ≤ k) && (decide (k < s.n) && s.tk k.toNat)
/-- Is there such a word? -/
def hasW (s : Ms) (k i : Int) : Bool := s.has k && (decide (0 ≤ i) && decide (i < 8))
structure Inv (s : Ms) : Prop where
  le : s.next ≤ s.n
  tkl : ∀ k, s.tk k = true → k < s.next
  nd : s.back.Nodup
  mem : ∀ k, k ∈ s.back ↔ k < s.next ∧ s.tk k = false
  wok : ∀ k i, 0 ≤ s.wd k i ∧ s.wd k i < 18446744073709551616
theorem frees_new (n : Nat) : (new n).frees = (List.range' 0 n).reverse := by simp [new, frees]
theorem frees_give (s : Ms) (k : Nat) : (s.give k).frees = s.frees ++ [k] := by simp [give, frees]
theorem range'_rev (a m : Nat) : (List.range' a (m + 1)).reverse = (List.range' (a + 1) m).reverse ++ [a] := by
  rw [List.range'_succ, List.reverse_cons]
theorem frees_top (s : Ms) : s.frees.getLast? = s.top := by
  unfold frees top
  cases h : s.back.getLast? with
  | some k =>
    have hne : s.back ≠ [] := by rintro e; rw [e] at h; cases h
    rw [List.getLast?_append, h]
    rfl
  | none =>
    have he : s.back = [] := by simpa using h
    rw [he, List.append_nil]
    by_cases hlt : s.next < s.n
    · obtain ⟨m, hm⟩ : ∃ m, s.n - s.next = m + 1 := ⟨s.n - s.next - 1, by omega⟩
      rw [hm, range'_rev]
      simp [hlt]
    · have : s.n - s.next = 0 := by omega
      rw [this]
      simp [hlt]
theorem frees_take (s : Ms) (k : Nat) (h : s.top = some k) : (s.take k).frees ++ [k] = s.frees := by
  unfold frees take
  unfold top at h
  cases hb : s.back.getLast? with
  | some k' =>
    rw [hb] at h
    obtain rfl : k' = k := by simpa using h
    have hne : s.back ≠ [] := by rintro e; rw [e] at hb; cases hb
    simp only [hne, if_false]
    rw [List.append_assoc, dl hb]
  | none =>
    have he : s.back = [] := by simpa using hb
    rw [hb] at h
    simp only at h
    split at h
    · rename_i hlt
      obtain rfl : s.next = k := by simpa using h
      rw [he]
      obtain ⟨m, hm⟩ : ∃ m, s.n - s.next = m + 1 := ⟨s.n - s.next - 1, by omega⟩
      rw [hm, range'_rev]
      have e2 : s.n - (s.next + 1) = m := by omega
      simp [e2]
    · cases h
theorem top_lt {s : Ms} (i : s.Inv) {k : Nat} (h : s.top = some k) : k < s.n ∧ s.tk k = false := by
  unfold top at h
  cases hb : s.back.getLast? with
  | some k' =>
    rw [hb] at h
    obtain rfl : k' = k := by simpa using h
    have := (i.mem k').1 (List.mem_of_getLast? hb)
    have := i.le
    refine ⟨by omega, ?_⟩
    exact ((i.mem k').1 (List.mem_of_getLast? hb)).2
  | none =>
    rw [hb] at h
    simp only at h
    split at h
    · obtain rfl : s.next = k := by simpa using h
      refine ⟨by assumption, ?_⟩
      cases ht : s.tk s.next with
      | true => have := i.tkl _ ht; omega
      | false => rfl
    · cases h
theorem has_iff {s : Ms} {k : Int} : s.has k = true ↔ 0 ≤ k ∧ k < s.n ∧ s.tk k.toNat = true := by
  unfold has
  simp
theorem has_nat {s : Ms} (i : s.Inv) (k : Nat) : s.has k = s.tk k := by
  unfold has
  by_cases h : k < s.n
  · have h' : (k : Int) < s.n := by omega
    simp [h]
  · cases ht : s.tk k with
    | false => simp [ht]
    | true => have := i.tkl _ ht; have := i.le; omega
theorem Inv.new (n : Nat) : (Ms.new n).Inv := ⟨Nat.zero_le _, fun k h => by simp [Ms.new] at h, List.nodup_nil, fun k => by simp [Ms.new], fun k i => by simp [Ms.new]⟩
theorem Inv.setW {s : Ms} (i : s.Inv) (k j : Nat) {v : Int} (hv : 0 ≤ v ∧ v < 18446744073709551616) : (s.setW k j v).Inv :=
  ⟨i.le, i.tkl, i.nd, i.mem, fun a b => by
    unfold Ms.setW
    dsimp only
    split
    · exact hv
    · exact i.wok a b⟩
theorem Inv.give {s : Ms} (i : s.Inv) {k : Nat} (hk : s.tk k = true) : (s.give k).Inv := by
  have hlt := i.tkl k hk
  have hn : k ∉ s.back := fun h => by rw [((i.mem k).1 h).2] at hk; cases hk
  refine ⟨i.le, fun a h => ?_, ?_, fun a => ?_, i.wok⟩
  · by_cases e : a = k
    · rw [e]; exact hlt
    · exact i.tkl a (by simpa [Ms.give, fput, e] using h)
  · show (s.back ++ [k]).Nodup
    rw [List.nodup_append]
    refine ⟨i.nd, by simp, fun a ha b hb => ?_⟩
    simp at hb
    rintro rfl
    exact hn (hb ▸ ha)
  · show a ∈ s.back ++ [k] ↔ a < s.next ∧ fput s.tk k false a = false
    by_cases e : a = k
    · subst e
      simp [fput, hlt]
    · simp [fput, e, i.mem a]
theorem dropLast_mem {l : List Nat} {x : Nat} (hx : l.getLast? = some x) (nd : l.Nodup) (a : Nat) : a ∈ l.dropLast ↔ a ∈ l ∧ a ≠ x := by
  have e := dl hx
  have nd' := nd
  rw [← e] at nd'
  rw [List.nodup_append] at nd'
  obtain ⟨_, _, n3⟩ := nd'
  constructor
  · intro h
    refine ⟨(List.dropLast_sublist l).subset h, fun he => ?_⟩
    exact n3 a h x (by simp) he
  · rintro ⟨h, hne⟩
    rw [← e] at h
    simpa [hne] using h
theorem Inv.take {s : Ms} (i : s.Inv) {k : Nat} (hk : s.top = some k) : (s.take k).Inv := by
  have ht := top_lt i hk
  unfold top at hk
  have wok : ∀ a b, 0 ≤ (s.take k).wd a b ∧ (s.take k).wd a b < 18446744073709551616 := fun a b => by
    unfold Ms.take
    dsimp only
    split
    · omega
    · exact i.wok a b
  cases hb : s.back.getLast? with
  | some k' =>
    rw [hb] at hk
    obtain rfl : k' = k := by simpa using hk
    have hne : s.back ≠ [] := by rintro e; rw [e] at hb; cases hb
    have hm := (i.mem k').1 (List.mem_of_getLast? hb)
    have en : (s.take k').next = s.next := by simp [Ms.take, hne]
    refine ⟨by rw [en]; exact i.le, fun a h => ?_, List.Sublist.nodup (List.dropLast_sublist _) i.nd, fun a => ?_, wok⟩
    · rw [en]
      by_cases e : a = k'
      · rw [e]; exact hm.1
      · exact i.tkl a (by simpa [Ms.take, fput, e] using h)
    · rw [en]
      show a ∈ s.back.dropLast ↔ a < s.next ∧ fput s.tk k' true a = false
      rw [dropLast_mem hb i.nd, i.mem a]
      by_cases e : a = k'
      · simp [e, fput]
      · simp [e, fput]
  | none =>
    have he : s.back = [] := by simpa using hb
    rw [hb] at hk
    simp only at hk
    split at hk
    · rename_i hlt
      obtain rfl : s.next = k := by simpa using hk
      have en : (s.take s.next).next = s.next + 1 := by simp [Ms.take, he]
      refine ⟨by rw [en]; exact hlt, fun a h => ?_, by show s.back.dropLast.Nodup; rw [he]; exact List.nodup_nil, fun a => ?_, wok⟩
      · rw [en]
        by_cases e : a = s.next
        · omega
        · have := i.tkl a (by simpa [Ms.take, fput, e] using h)
          omega
      · rw [en]
        show a ∈ s.back.dropLast ↔ a < s.next + 1 ∧ fput s.tk s.next true a = false
        have := i.mem a
        rw [he] at this ⊢
        simp at this ⊢
        intro h1
        by_cases e : a = s.next
        · simp [e, fput]
        · have := this (by omega)
          simp [e, fput, this]
    · cases hk
theorem frees_mem {s : Ms} (i : s.Inv) (k : Nat) : k ∈ s.frees ↔ k < s.n ∧ s.tk k = false := by
  have hle := i.le
  unfold frees
  rw [List.mem_append, List.mem_reverse, List.mem_range'_1, i.mem k]
  constructor
  · rintro (⟨h1, h2⟩ | ⟨h1, h2⟩)
    · refine ⟨by omega, ?_⟩
      cases ht : s.tk k with
      | true => have := i.tkl _ ht; omega
      | false => rfl
    · exact ⟨by omega, h2⟩
  · rintro ⟨h1, h2⟩
    by_cases h : k < s.next
    · exact .inr ⟨h, h2⟩
    · exact .inl ⟨by omega, by omega⟩
theorem frees_nodup {s : Ms} (i : s.Inv) : s.frees.Nodup := by
  unfold frees
  rw [List.nodup_append]
  refine ⟨List.pairwise_reverse.2 ((List.nodup_range' (step := 1)).imp fun h => h.symm), i.nd, fun a ha b hb => ?_⟩
  rw [List.mem_reverse, List.mem_range'_1] at ha
  have := (i.mem b).1 hb
  omega
end Ms
/-- A list without doubles, all below n, is not longer than n. -/
theorem nodup_le : ∀ (n : Nat) (l : List Nat), l.Nodup → (∀ x ∈ l, x < n) → l.length ≤ n
  | 0, [], _, _ => Nat.le_refl _
  | 0, x :: _, _, h => absurd (h x (by simp)) (by omega)
  | n + 1, l, nd, h => by
    by_cases hm : n ∈ l
    · have h1 := nodup_le n (l.erase n) (nd.erase n) (fun x hx => by
        have hx' := (List.Nodup.mem_erase_iff nd).1 hx
        have := h x hx'.2
        have := hx'.1
        omega)
      rw [List.length_erase_of_mem hm] at h1
      omega
    · have h1 := nodup_le n l nd (fun x hx => by
        have := h x hx
        have : x ≠ n := fun e => hm (e ▸ hx)
        omega)
      omega
theorem Ms.frees_le {s : Ms} (i : s.Inv) : s.frees.length ≤ s.n := nodup_le s.n _ (frees_nodup i) fun x hx => ((frees_mem i x).1 hx).1
end Go.Proofs.Ytmfheghbgihdmaa
namespace Go.Proofs.Ytmfheghbgihdmaa
open Go.RowKit
structure Mp where
  page : Int
  size : Int
  frame : Int
  rights : Int
  deriving DecidableEq
structure Ac where
  page : Int
  kind : Int
  user : Bool
  deriving DecidableEq
structure An where
  fin : Int
  frame : Int
  rights : Int
  deriving DecidableEq
structure En where
  there : Bool
  leaf : Bool
  rights : Int
  used : Bool
  dirty : Bool
  frame : Int
  deriving DecidableEq
/-- An int. -/
def i64 (n : Int) : Prop := -9223372036854775808 ≤ n ∧ n ≤ 9223372036854775807
def Mp.cells (m : Mp) : List Value := [(Value.int .i64) m.page, (Value.int .i64) m.size, (Value.int .i64) m.frame, (Value.int .i64) m.rights]
def Ac.cells (a : Ac) : List Value := [(Value.int .i64) a.page, (Value.int .i64) a.kind, Value.bool a.user]
def An.cells (a : An) : List Value := [(Value.int .i64) a.fin, (Value.int .i64) a.frame, (Value.int .i64) a.rights]
def En.cells (e : En) : List Value := [Value.bool e.there, Value.bool e.leaf, (Value.int .i64) e.rights, Value.bool e.used, Value.bool e.dirty, (Value.int .i64) e.frame]
@[go_sem] def Mp.val (m : Mp) : Value := .agg #[(Value.int .i64) m.page, (Value.int .i64) m.size, (Value.int .i64) m.frame, (Value.int .i64) m.rights]
@[go_sem] def Ac.val (a : Ac) : Value := .agg #[(Value.int .i64) a.page, (Value.int .i64) a.kind, Value.bool a.user]
@[go_sem] def An.val (a : An) : Value := .agg #[(Value.int .i64) a.fin, (Value.int .i64) a.frame, (Value.int .i64) a.rights]
@[go_sem] def En.val (e : En) : Value := .agg #[Value.bool e.there, Value.bool e.leaf, (Value.int .i64) e.rights, Value.bool e.used, Value.bool e.dirty, (Value.int .i64) e.frame]
def Mp.ok (m : Mp) : Prop := i64 m.page ∧ i64 m.size ∧ i64 m.frame ∧ i64 m.rights
def Ac.ok (a : Ac) : Prop := i64 a.page ∧ i64 a.kind
def En.ok (e : En) : Prop := i64 e.rights ∧ i64 e.frame
def Mp.zero : Mp := ⟨0, 0, 0, 0⟩
def Ac.zero : Ac := ⟨0, 0, false⟩
def An.zero : An := ⟨0, 0, 0⟩
def En.zero : En := ⟨false, false, 0, false, false, 0⟩
/-- page.Span. -/
def span (s : Int) : Int := if s = 0 then 1 else if s = 1 then 8 else if s = 2 then 64 else 0
/-- page.Has. -/
def hasB (p : Int) : Bool := decide (0 ≤ p) && decide (p < 4096)
/-- Eight, so many times. -/
def pow8 : Nat → Int | 0 => 1 | n + 1 => 8 * pow8 n
/-- page.Index. -/
def index (p l : Int) : Int := if 0 ≤ p ∧ p < 4096 ∧ 0 ≤ l ∧ l < 4 then p / pow8 l.toNat % 8 else -1
/-- page.Check. -/
def check (m : Mp) : Int :=
  if span m.size = 0 then 2
  else if m.page < 0 ∨ 4096 ≤ m.page ∨ m.frame < 0 ∨ 1048576 ≤ m.frame ∨ m.rights < 0 ∨ 7 < m.rights then 1
  else if m.page % span m.size ≠ 0 ∨ m.frame % span m.size ≠ 0 then 3
  else 0
/-- page.Over. -/
def over (m : Mp) (p : Int) : Bool := decide (m.page ≤ p) && decide (p - m.page < span m.size)
/-- page.Meet. -/
def meet (a b : Mp) : Bool := over a b.page || over b a.page
/-- A bit of an int. -/
def bitOf (r : Int) (k : Int) : Bool := decide (r / k % 2 = 1)
/-- page.May. -/
def may (r : Int) (a : Ac) : Bool :=
  (a.kind != 1 || bitOf r 1) && (a.kind != 2 || bitOf r 4) && (!a.user || bitOf r 2)
/-- page.CheckAccess. -/
def checkAccess (a : Ac) : Int := if a.kind < 0 ∨ 2 < a.kind then 2 else if a.page < 0 ∨ 4096 ≤ a.page then 1 else 0
/-- page.Answer. -/
def answer (m : Mp) (a : Ac) : An := if may m.rights a then ⟨0, wrap64 (wrap64 (m.frame + a.page) - m.page), m.rights⟩ else ⟨2, 0, 0⟩
end Go.Proofs.Ytmfheghbgihdmaa
namespace Go.Proofs.Ytmfheghbgihdmaa
open Go.RowKit
/-- entry.Check. -/
def entFault (e : En) (l : Int) : Int :=
  if l < 0 ∨ 4 ≤ l then 1
  else if e.there = false then (if e = En.zero then 0 else 7)
  else if e.rights < 0 ∨ 7 < e.rights ∨ e.frame < 0 ∨ 1048576 ≤ e.frame then 1
  else if (e.leaf = true ∧ l = 3) ∨ (e.leaf = false ∧ l = 0) then 2
  else if e.leaf = false then (if e.rights ≠ 7 ∨ e.used = true ∨ e.dirty = true then 7 else 0)
  else if e.frame % span l ≠ 0 then 3 else 0
def b2i (b : Bool) (n : Int) : Int := if b = true then n else 0
def wordE (e : En) (l : Int) : Int := e.frame * 4096 + e.rights * 2 + 1 + b2i e.used 32 + b2i e.dirty 64 + b2i (e.leaf && (l != 0)) 128
/-- entry.Encode: the word. -/
def encW (e : En) (l : Int) : Int := if entFault e l = 0 ∧ e.there = true then wordE e l else 0
/-- May the bits of a word be so? -/
def bitsOk (w l : Int) : Prop := w / 16 % 2 = 0 ∧ w / 256 % 16 = 0 ∧ w < 4294967296 ∧ (w = 0 ∨ w % 2 = 1) ∧ (l = 0 → w / 128 % 2 = 0)
instance (w l : Int) : Decidable (bitsOk w l) := by unfold bitsOk; infer_instance
def unword (w l : Int) : En := ⟨true, (l == 0) || bitOf w 128, w / 2 % 8, bitOf w 32, bitOf w 64, w / 4096⟩
/-- entry.Decode: the code. -/
def decC (w l : Int) : Int := if l < 0 ∨ 4 ≤ l then 1 else if ¬ bitsOk w l then 7 else if w = 0 then 0 else entFault (unword w l) l
/-- entry.Decode: the entry. -/
def decE (w l : Int) : En := if decC w l = 0 ∧ w ≠ 0 then unword w l else En.zero
/-- entry.Map. -/
def leafMap (e : En) (l at_ : Int) : Mp := if entFault e l = 0 ∧ e.leaf = true ∧ 0 ≤ at_ ∧ at_ < 4096 then ⟨at_ / span l * span l, l, e.frame, e.rights⟩ else Mp.zero
theorem entFault_level {e : En} {l : Int} (h : entFault e l = 0) : 0 ≤ l ∧ l < 4 := by
  unfold entFault at h
  split at h
  · omega
  · omega
theorem entFault_not {e : En} {l : Int} (h : entFault e l = 0) (ht : e.there = false) : e = En.zero := by
  unfold entFault at h
  split at h
  · omega
  · try rw [if_pos ht] at h
    split at h
    · assumption
    · omega
/-- What an entry that may stand somewhere, and is there, is like. -/
structure EntOk (e : En) (l : Int) : Prop where
  l0 : 0 ≤ l
  l4 : l < 4
  r0 : 0 ≤ e.rights
  r7 : e.rights ≤ 7
  f0 : 0 ≤ e.frame
  f1 : e.frame < 1048576
  leaf : e.leaf = true → l < 3 ∧ e.frame % span l = 0
  table : e.leaf = false → 0 < l ∧ e.rights = 7 ∧ e.used = false ∧ e.dirty = false
theorem entOk_of {e : En} {l : Int} (h : entFault e l = 0) (ht : e.there = true) : EntOk e l := by
  unfold entFault at h
  split at h
  · omega
  rename_i hl
  rw [if_neg (by rw [ht]; simp)] at h
  split at h
  · omega
  rename_i hr
  split at h
  · omega
  rename_i hk
  refine ⟨by omega, by omega, by omega, by omega, by omega, by omega, fun hf => ?_, fun hf => ?_⟩
  · rw [if_neg (by rw [hf]; simp)] at h
    split at h
    · omega
    · rename_i h3
      have : ¬ (l = 3) := fun e => hk (.inl ⟨hf, e⟩)
      exact ⟨by omega, by omega⟩
  · rw [if_pos hf] at h
    split at h
    · omega
    · rename_i h7
      have : ¬ (l = 0) := fun e => hk (.inr ⟨hf, e⟩)
      refine ⟨by omega, by omega, ?_, ?_⟩
      · cases hu : e.used with
        | true => exact absurd (.inr (.inl hu)) h7
        | false => rfl
      · cases hu : e.dirty with
        | true => exact absurd (.inr (.inr hu)) h7
        | false => rfl
theorem entFault_ok {e : En} {l : Int} (ht : e.there = true) (h : EntOk e l) : entFault e l = 0 := by
  have := h.l0; have := h.l4; have := h.r0; have := h.r7; have := h.f0; have := h.f1
  unfold entFault
  rw [if_neg (by omega), if_neg (by rw [ht]; simp), if_neg (by omega)]
  cases hf : e.leaf with
  | true =>
    have := h.leaf hf
    rw [if_neg (by simp; omega), if_neg (by simp), if_neg (by omega)]
  | false =>
    obtain ⟨a, b, c, d⟩ := h.table hf
    rw [if_neg (by simp; omega), if_pos rfl, if_neg (by rw [c, d]; simp [b])]
theorem b2i_range (b : Bool) (n : Int) (h : 0 ≤ n) : 0 ≤ b2i b n ∧ b2i b n ≤ n := by cases b <;> simp [b2i] <;> omega
theorem wordE_ne {e : En} {l : Int} (h : EntOk e l) : wordE e l ≠ 0 ∧ 0 ≤ wordE e l ∧ wordE e l < 4294967296 := by
  have := b2i_range e.used 32 (by omega)
  have := b2i_range e.dirty 64 (by omega)
  have := b2i_range (e.leaf && (l != 0)) 128 (by omega)
  have := h.r0; have := h.r7; have := h.f0; have := h.f1
  unfold wordE
  omega
theorem leaf_level {e : En} {l : Int} (h : EntOk e l) : ((l == 0) || (e.leaf && (l != 0))) = e.leaf := by
  by_cases h0 : l = 0
  · subst h0
    cases hf : e.leaf with
    | true => rfl
    | false => have := (h.table hf).1; omega
  · have e1 : (l == 0) = false := by simpa using h0
    have e2 : (l != 0) = true := by simpa using h0
    rw [e1, e2, Bool.false_or, Bool.and_true]
theorem bit_of_word (b : Bool) (x : Int) (h : x = b2i b 1) : decide (x = 1) = b := by cases b <;> simp [b2i] at h <;> simp [h]
theorem b2i_mul (b : Bool) (n : Int) : b2i b n = b2i b 1 * n := by cases b <;> simp [b2i]
theorem bitOf_eq (b : Bool) (w n : Int) (h : w / n % 2 = b2i b 1) : bitOf w n = b := bit_of_word b _ h
theorem unword_word {e : En} {l : Int} (ht : e.there = true) (h : EntOk e l) : unword (wordE e l) l = e ∧ bitsOk (wordE e l) l := by
  have hb := leaf_level h
  have u1 := b2i_range e.used 1 (by omega)
  have d1 := b2i_range e.dirty 1 (by omega)
  have v1 := b2i_range (e.leaf && (l != 0)) 1 (by omega)
  have hl0 : l = 0 → b2i (e.leaf && (l != 0)) 1 = 0 := fun h0 => by subst h0; simp [b2i]
  have := h.r0; have := h.r7; have := h.f0; have := h.f1
  obtain ⟨th, leaf, rights, used, dirty, frame⟩ := e
  dsimp only at *
  subst ht
  have hw : wordE ⟨true, leaf, rights, used, dirty, frame⟩ l = frame * 4096 + rights * 2 + 1 + b2i used 1 * 32 + b2i dirty 1 * 64 + b2i (leaf && (l != 0)) 1 * 128 := by
    unfold wordE
    dsimp only
    rw [b2i_mul used 32, b2i_mul dirty 64, b2i_mul (leaf && (l != 0)) 128]
  rw [hw]
  refine ⟨?_, ?_⟩
  · unfold unword
    rw [bitOf_eq used _ 32 (by omega), bitOf_eq dirty _ 64 (by omega), bitOf_eq (leaf && (l != 0)) _ 128 (by omega), hb]
    congr 1
    · omega
    · omega
  · unfold bitsOk
    refine ⟨by omega, by omega, by omega, .inr (by omega), fun h0 => ?_⟩
    have := hl0 h0
    omega
/-- What was encoded is decoded as it was. -/
theorem dec_enc {e : En} {l : Int} (h : entFault e l = 0) : decC (encW e l) l = 0 ∧ decE (encW e l) l = e ∧ (encW e l = 0 ↔ e.there = false) := by
  have hl := entFault_level h
  cases ht : e.there with
  | false =>
    have he := entFault_not h ht
    have hw : encW e l = 0 := by unfold encW; rw [if_neg (by rw [ht]; simp)]
    rw [hw]
    have hc : decC 0 l = 0 := by
      unfold decC
      rw [if_neg (by omega), if_neg (by unfold bitsOk; simp), if_pos rfl]
    refine ⟨hc, ?_, by simp⟩
    unfold decE
    rw [if_neg (by simp), he]
  | true =>
    have hk := entOk_of h ht
    obtain ⟨h1, h2⟩ := unword_word ht hk
    have hn := (wordE_ne hk).1
    have hw : encW e l = wordE e l := by unfold encW; rw [if_pos ⟨h, ht⟩]
    rw [hw]
    have hc : decC (wordE e l) l = 0 := by
      unfold decC
      rw [if_neg (by omega), if_neg (by simpa using h2), if_neg hn, h1]
      exact h
    refine ⟨hc, ?_, by simp [hn]⟩
    unfold decE
    rw [if_pos ⟨hc, hn⟩, h1]
theorem word_unword {w l : Int} (hb : bitsOk w l) (hn : w ≠ 0) : wordE (unword w l) l = w := by
  obtain ⟨a, b, c, d, e⟩ := hb
  have bi : ∀ n : Int, b2i (bitOf w n) 1 = w / n % 2 := fun n => by
    unfold b2i bitOf
    have : w / n % 2 = 0 ∨ w / n % 2 = 1 := by omega
    rcases this with h | h <;> simp [h]
  have hv : b2i (((l == 0) || bitOf w 128) && (l != 0)) 1 = w / 128 % 2 := by
    by_cases hl : l = 0
    · have := e hl
      subst hl
      simp [b2i, this]
    · have e1 : (l == 0) = false := by simpa using hl
      have e2 : (l != 0) = true := by simpa using hl
      rw [e1, e2, Bool.false_or, Bool.and_true]
      exact bi 128
  unfold wordE unword
  dsimp only
  rw [b2i_mul _ 32, b2i_mul _ 64, b2i_mul _ 128, hv, bi 32, bi 64]
  omega
/-- What is decoded is encoded as that very word. -/
theorem enc_dec {w l : Int} (h : decC w l = 0) : entFault (decE w l) l = 0 ∧ encW (decE w l) l = w := by
  have hc := h
  unfold decC at h
  split at h
  · omega
  rename_i hl
  split at h
  · omega
  rename_i hb
  split at h
  · rename_i hw
    have he : decE w l = En.zero := by unfold decE; rw [if_neg (by simp [hw])]
    rw [he]
    refine ⟨?_, by rw [hw]; unfold encW; rw [if_neg (by simp [En.zero])]⟩
    unfold entFault
    rw [if_neg hl, if_pos (show En.zero.there = false from rfl)]
    simp
  · rename_i hw
    have he : decE w l = unword w l := by unfold decE; rw [if_pos ⟨hc, hw⟩]
    rw [he]
    refine ⟨h, ?_⟩
    unfold encW
    rw [if_pos ⟨h, rfl⟩]
    exact word_unword (Decidable.of_not_not hb) hw
theorem encW_fault {e : En} {l : Int} (h : entFault e l ≠ 0) : encW e l = 0 := by unfold encW; rw [if_neg (by simp [h])]
end Go.Proofs.Ytmfheghbgihdmaa
namespace Go.Proofs.Ytmfheghbgihdmaa
open Go.RowKit
/-- A word of a table. -/
def wordV (s : Ms) (t i : Int) : Int := s.wd t.toNat i.toNat
/-- What a look for the way to a page comes to. -/
structure Wy where
  code : Int
  tabs : List Int
  lev : Int
  e : En
def Wy.err (c : Int) : Wy := ⟨c, [], 0, En.zero⟩
/-- One table on the way. -/
def wayStep (s : Ms) (p : Int) (L : Nat) (t : Int) (acc : List Int) (next : Int → Wy) : Wy :=
  if s.has t = false then .err 12
  else if decC (wordV s t (index p L)) L ≠ 0 then .err (decC (wordV s t (index p L)) L)
  else if (decE (wordV s t (index p L)) L).there = false ∨ (decE (wordV s t (index p L)) L).leaf = true then ⟨0, acc ++ [t], L, decE (wordV s t (index p L)) L⟩
  else next (decE (wordV s t (index p L)) L).frame
def wayA (s : Ms) (p : Int) : Nat → Int → List Int → Wy
  | 0, t, acc => wayStep s p 0 t acc fun _ => .err 7
  | L + 1, t, acc => wayStep s p (L + 1) t acc fun f => wayA s p L f (acc ++ [t])
/-- The way to a page, from a root on. -/
def way (s : Ms) (root p : Int) : Wy := if hasB p = true then wayA s p 3 root [] else .err 1
theorem dec0_leaf {w : Int} (_ : decC w 0 = 0) : (decE w 0).there = false ∨ (decE w 0).leaf = true := by
  unfold decE
  split
  · right; rfl
  · left; rfl
theorem wayA_free {s : Ms} {p : Int} {L : Nat} {t : Int} {acc : List Int} (h : s.has t = false) : wayA s p L t acc = .err 12 := by
  cases L <;> (unfold wayA wayStep; rw [if_pos h])
theorem wayA_bad {s : Ms} {p : Int} {L : Nat} {t : Int} {acc : List Int} (h : s.has t = true) (hc : decC (wordV s t (index p L)) L ≠ 0) : wayA s p L t acc = .err (decC (wordV s t (index p L)) L) := by
  cases L <;> (unfold wayA wayStep; rw [if_neg (by rw [h]; simp), if_pos hc])
theorem wayA_end {s : Ms} {p : Int} {L : Nat} {t : Int} {acc : List Int} (h : s.has t = true) (hc : decC (wordV s t (index p L)) L = 0)
    (he : (decE (wordV s t (index p L)) L).there = false ∨ (decE (wordV s t (index p L)) L).leaf = true) : wayA s p L t acc = ⟨0, acc ++ [t], L, decE (wordV s t (index p L)) L⟩ := by
  cases L <;> (unfold wayA wayStep; rw [if_neg (by rw [h]; simp), if_neg (by rw [hc]; simp), if_pos he])
theorem wayA_on {s : Ms} {p : Int} {L : Nat} {t : Int} {acc : List Int} (h : s.has t = true) (hc : decC (wordV s t (index p L)) L = 0)
    (he : ¬ ((decE (wordV s t (index p L)) L).there = false ∨ (decE (wordV s t (index p L)) L).leaf = true)) : ∃ K, L = K + 1 ∧ wayA s p L t acc = wayA s p K (decE (wordV s t (index p L)) L).frame (acc ++ [t]) := by
  cases L with
  | zero => exact absurd (dec0_leaf hc) he
  | succ K =>
    refine ⟨K, rfl, ?_⟩
    conv => lhs; unfold wayA wayStep
    rw [if_neg (by rw [h]; simp), if_neg (by rw [hc]; simp), if_neg he]
theorem wayA_len (s : Ms) (p : Int) : ∀ (L : Nat) (t : Int) (acc : List Int), (wayA s p L t acc).code = 0 → 0 ≤ (wayA s p L t acc).lev ∧ (wayA s p L t acc).lev ≤ L ∧ (wayA s p L t acc).tabs.length = acc.length + 1 + (L - (wayA s p L t acc).lev.toNat) := by
  intro L
  induction L with
  | zero =>
    intro t acc hc
    cases h : s.has t with
    | false => rw [wayA_free h] at hc; cases hc
    | true =>
      by_cases hd : decC (wordV s t (index p (0 : Nat))) (0 : Nat) = 0
      · rw [wayA_end h hd (dec0_leaf hd)]
        simp
      · rw [wayA_bad h hd] at hc
        exact absurd hc hd
  | succ L ih =>
    intro t acc hc
    cases h : s.has t with
    | false => rw [wayA_free h] at hc; cases hc
    | true =>
      by_cases hd : decC (wordV s t (index p (L + 1 : Nat))) (L + 1 : Nat) = 0
      · by_cases he : (decE (wordV s t (index p (L + 1 : Nat))) (L + 1 : Nat)).there = false ∨ (decE (wordV s t (index p (L + 1 : Nat))) (L + 1 : Nat)).leaf = true
        · rw [wayA_end h hd he]
          simp
          omega
        · obtain ⟨K, hK, e⟩ := wayA_on (acc := acc) h hd he
          obtain rfl : L = K := by omega
          rw [e] at hc ⊢
          obtain ⟨a, b, c⟩ := ih _ _ hc
          rw [List.length_append, List.length_singleton] at c
          refine ⟨a, by omega, by omega⟩
      · rw [wayA_bad h hd] at hc
        exact absurd hc hd
/-- A visit of an entry: its table, level, the way to it, and it. -/
structure Vis where
  t : Int
  lev : Int
  at_ : Int
  e : En
structure Vs where
  code : Int
  vs : List Vis
/-- The entries of a table from the i-th on, and all below them. -/
def scanV (s : Ms) (L : Nat) (t a : Int) (sub : Int → Int → Vs) : List Nat → Vs
  | [] => ⟨0, []⟩
  | i :: is =>
    if decC (wordV s t i) L ≠ 0 then ⟨decC (wordV s t i) L, []⟩
    else
      let e := decE (wordV s t i) L
      let r : Vs := if e.there = true ∧ e.leaf = false then sub e.frame (a * 8 + i) else ⟨0, []⟩
      if r.code ≠ 0 then ⟨r.code, ⟨t, L, a * 8 + i, e⟩ :: r.vs⟩
      else ⟨(scanV s L t a sub is).code, ⟨t, L, a * 8 + i, e⟩ :: (r.vs ++ (scanV s L t a sub is).vs)⟩
/-- walk's each. -/
def eachV (s : Ms) : Nat → Int → Int → Vs
  | 0, t, a => if s.has t = false then ⟨12, []⟩ else scanV s 0 t a (fun _ _ => ⟨7, []⟩) (List.range 8)
  | L + 1, t, a => if s.has t = false then ⟨12, []⟩ else scanV s (L + 1) t a (eachV s L) (List.range 8)
/-- What goes on below a table of a level. -/
def subV (s : Ms) : Nat → Int → Int → Vs
  | 0 => fun _ _ => ⟨7, []⟩
  | L + 1 => eachV s L
theorem eachV_eq (s : Ms) (L : Nat) (t a : Int) : eachV s L t a = if s.has t = false then ⟨12, []⟩ else scanV s L t a (subV s L) (List.range 8) := by
  cases L <;> rfl
def mapsOf (vs : List Vis) : List Mp := vs.filterMap fun v => if v.e.leaf = true then some (leafMap v.e v.lev (v.at_ * pow8 v.lev.toNat)) else none
def tabsOf (vs : List Vis) : List Int := vs.filterMap fun v => if v.e.there = true ∧ v.e.leaf = false then some v.e.frame else none
/-- How many entries may be visited. -/
def most : Nat → Nat | 0 => 8 | L + 1 => 8 + 8 * most L
theorem scanV_len (s : Ms) (L : Nat) (t a : Int) (sub : Int → Int → Vs) (m : Nat) (h : ∀ f p, (sub f p).vs.length ≤ m) : ∀ is : List Nat, (scanV s L t a sub is).vs.length ≤ is.length * (1 + m)
  | [] => by simp [scanV]
  | i :: is => by
    have ih := scanV_len s L t a sub m h is
    have h0 : (is.length + 1) * (1 + m) = is.length * (1 + m) + (1 + m) := by rw [Nat.add_mul, Nat.one_mul]
    unfold scanV
    rw [List.length_cons, h0]
    split
    · simp
    · have hr : (if (decE (wordV s t i) L).there = true ∧ (decE (wordV s t i) L).leaf = false then sub (decE (wordV s t i) L).frame (a * 8 + i) else (⟨0, []⟩ : Vs)).vs.length ≤ m := by
        split
        · exact h _ _
        · simp
      dsimp only
      generalize (if (decE (wordV s t i) L).there = true ∧ (decE (wordV s t i) L).leaf = false then sub (decE (wordV s t i) L).frame (a * 8 + i) else (⟨0, []⟩ : Vs)) = r at *
      split
      · simp only [List.length_cons]; omega
      · simp only [List.length_cons, List.length_append]; omega
theorem eachV_len (s : Ms) : ∀ (L : Nat) (t a : Int), (eachV s L t a).vs.length ≤ most L
  | 0, t, a => by
    rw [eachV_eq]
    split
    · simp
    · have := scanV_len s 0 t a (subV s 0) 0 (fun _ _ => Nat.le_refl _) (List.range 8)
      simpa [most] using this
  | L + 1, t, a => by
    rw [eachV_eq]
    split
    · simp
    · have := scanV_len s (L + 1) t a (subV s (L + 1)) (most L) (fun f p => eachV_len s L f p) (List.range 8)
      simp only [List.length_range] at this
      unfold most
      omega
end Go.Proofs.Ytmfheghbgihdmaa
namespace Go.Proofs.Ytmfheghbgihdmaa
open Go.RowKit
theorem span_pos {s : Int} (h : span s ≠ 0) : (s = 0 ∧ span s = 1) ∨ (s = 1 ∧ span s = 8) ∨ (s = 2 ∧ span s = 64) := by
  unfold span at *
  by_cases h0 : s = 0
  · left; simp [h0]
  · by_cases h1 : s = 1
    · right; left; simp [h1]
    · by_cases h2 : s = 2
      · right; right; simp [h2]
      · simp [h0, h1, h2] at h
/-- What a mapping that may be is like. -/
structure MapOk (m : Mp) : Prop where
  p0 : 0 ≤ m.page
  p1 : m.page + span m.size ≤ 4096
  sp : 0 < span m.size
  al : m.page % span m.size = 0
  size : (m.size = 0 ∧ span m.size = 1) ∨ (m.size = 1 ∧ span m.size = 8) ∨ (m.size = 2 ∧ span m.size = 64)
  f0 : 0 ≤ m.frame
  f1 : m.frame < 1048576
  fa : m.frame % span m.size = 0
  r0 : 0 ≤ m.rights
  r7 : m.rights ≤ 7
theorem mapOk_of {m : Mp} (h : check m = 0) : MapOk m := by
  unfold check at h
  split at h
  · omega
  rename_i hs
  split at h
  · omega
  rename_i hr
  split at h
  · omega
  rename_i ha
  have hsp := span_pos hs
  have h1 : m.page % span m.size = 0 := by omega
  have h2 : m.frame % span m.size = 0 := by omega
  refine ⟨by omega, ?_, ?_, h1, hsp, by omega, by omega, h2, by omega, by omega⟩
  · rcases hsp with ⟨_, e⟩ | ⟨_, e⟩ | ⟨_, e⟩ <;> rw [e] at h1 ⊢ <;> omega
  · rcases hsp with ⟨_, e⟩ | ⟨_, e⟩ | ⟨_, e⟩ <;> omega
theorem mapOk_check {m : Mp} (h : MapOk m) : check m = 0 := by
  have := h.p0; have := h.p1; have := h.sp; have := h.al; have := h.f0; have := h.f1; have := h.fa; have := h.r0; have := h.r7
  unfold check
  rw [if_neg (by omega), if_neg (by omega), if_neg (by omega)]
theorem over_iff {m : Mp} {p : Int} : over m p = true ↔ m.page ≤ p ∧ p < m.page + span m.size := by
  unfold over
  simp only [Bool.and_eq_true, decide_eq_true_eq]
  omega
theorem over_false {m : Mp} {p : Int} : over m p = false ↔ p < m.page ∨ m.page + span m.size ≤ p := by
  rw [← Bool.not_eq_true, over_iff]
  omega
theorem meet_false {a b : Mp} (ha : MapOk a) (hb : MapOk b) : meet a b = false ↔ a.page + span a.size ≤ b.page ∨ b.page + span b.size ≤ a.page := by
  unfold meet
  rw [Bool.or_eq_false_iff, over_false, over_false]
  have := ha.sp; have := hb.sp
  omega
namespace Bk
/-- The whole mapping lies ahead of a page. -/
def before (p : Int) (m : Mp) : Bool := !over m p && decide (m.page < p)
/-- Mappings that may be, one behind the other. -/
structure Ok (l : List Mp) : Prop where
  chk : ∀ x ∈ l, MapOk x
  up : l.Pairwise fun a b => a.page + span a.size ≤ b.page
def pos (l : List Mp) (p : Int) : Nat := (l.takeWhile (before p)).length
def find (l : List Mp) (p : Int) : Option Mp := l.find? fun x => over x p
def ins (l : List Mp) (m : Mp) : List Mp := l.takeWhile (before m.page) ++ m :: l.dropWhile (before m.page)
def bad (l : List Mp) (m : Mp) : Bool := l.any fun x => meet x m
def add (l : List Mp) (m : Mp) : List Mp := if check m = 0 ∧ bad l m = false then ins l m else l
def addC (l : List Mp) (m : Mp) : Int := if check m ≠ 0 then check m else if bad l m = true then 4 else 0
def del (l : List Mp) (p : Int) : List Mp := l.filter fun x => !over x p
def prot (l : List Mp) (p r : Int) : List Mp := l.map fun x => if over x p then { x with rights := r } else x
theorem Ok.nil : Ok [] := ⟨fun x h => (by cases h), List.Pairwise.nil⟩
theorem before_iff {p : Int} {m : Mp} (h : MapOk m) : before p m = true ↔ m.page + span m.size ≤ p := by
  unfold before
  have := h.sp
  rw [Bool.and_eq_true, Bool.not_eq_true', over_false, decide_eq_true_eq]
  omega
theorem Ok.tail {x : Mp} {l : List Mp} (h : Ok (x :: l)) : Ok l := ⟨fun y hy => h.chk y (List.mem_cons_of_mem _ hy), (List.pairwise_cons.1 h.up).2⟩
theorem Ok.sub {k l : List Mp} (h : Ok l) (s : k.Sublist l) : Ok k := ⟨fun y hy => h.chk y (s.subset hy), h.up.sublist s⟩
theorem Ok.del {l : List Mp} (h : Ok l) (p : Int) : Ok (del l p) := h.sub List.filter_sublist
/-- What lies behind the mappings that lie ahead of a page. -/
theorem after {l : List Mp} (h : Ok l) (p : Int) : ∀ x ∈ l.dropWhile (before p), before p x = false := by
  induction l with
  | nil => intro x hx; cases hx
  | cons y l ih =>
    intro x hx
    rw [List.dropWhile_cons] at hx
    split at hx
    · exact ih h.tail x hx
    · rename_i hy
      rcases List.mem_cons.1 hx with rfl | hx
      · simpa using hy
      · have h1 := (List.pairwise_cons.1 h.up).1 x hx
        have hx' := h.chk x (List.mem_cons_of_mem _ hx)
        have hy' := h.chk y (List.mem_cons_self ..)
        rw [before_iff hy'] at hy
        rw [← Bool.not_eq_true, before_iff hx']
        have := hx'.sp; have := hy'.sp
        omega
theorem ahead (l : List Mp) (p : Int) : ∀ x ∈ l.takeWhile (before p), before p x = true := by
  induction l with
  | nil => intro x hx; cases hx
  | cons y l ih =>
    intro x hx
    rw [List.takeWhile_cons] at hx
    split at hx
    · rename_i hy
      rcases List.mem_cons.1 hx with rfl | hx
      · exact hy
      · exact ih x hx
    · cases hx
theorem split (l : List Mp) (p : Int) : l.takeWhile (before p) ++ l.dropWhile (before p) = l := List.takeWhile_append_dropWhile
/-- Which mappings lie ahead of a page: just those ahead of its place. -/
theorem pos_iff {l : List Mp} (h : Ok l) (p : Int) {k : Nat} (hk : k < l.length) : before p l[k] = decide (k < pos l p) := by
  have e := split l p
  by_cases hlt : k < pos l p
  · have hl : k < (l.takeWhile (before p)).length := hlt
    have : l[k] = (l.takeWhile (before p))[k] := by
      have := List.getElem_append_left (as := l.takeWhile (before p)) (bs := l.dropWhile (before p)) (h' := by rw [e]; exact hk) hl
      rw [← this]
      simp only [e]
    rw [this, ahead l p _ (List.getElem_mem hl), decide_eq_true hlt]
  · have hge : (l.takeWhile (before p)).length ≤ k := by unfold pos at hlt; omega
    have hl : k - (l.takeWhile (before p)).length < (l.dropWhile (before p)).length := by
      have := congrArg List.length e
      rw [List.length_append] at this
      omega
    have : l[k] = (l.dropWhile (before p))[k - (l.takeWhile (before p)).length] := by
      have := List.getElem_append_right (as := l.takeWhile (before p)) (bs := l.dropWhile (before p)) (i := k) (h₂ := by rw [e]; exact hk) hge
      rw [← this]
      simp only [e]
    rw [this, after h p _ (List.getElem_mem hl), decide_eq_false hlt]
theorem bad_false {l : List Mp} {m : Mp} (h : bad l m = false) : ∀ x ∈ l, meet x m = false := by
  unfold bad at h
  rw [List.any_eq_false] at h
  intro x hx
  have := h x hx
  simpa using this
theorem Ok.ins {l : List Mp} (h : Ok l) {m : Mp} (hm : MapOk m) (hb : bad l m = false) : Ok (ins l m) := by
  have h1 : ∀ x ∈ l.takeWhile (before m.page), x.page + span x.size ≤ m.page := fun x hx =>
    (before_iff (h.chk x ((List.takeWhile_sublist _).subset hx))).1 (ahead l m.page x hx)
  have h2 : ∀ x ∈ l.dropWhile (before m.page), m.page + span m.size ≤ x.page := fun x hx => by
    have hxl := (List.dropWhile_sublist _).subset hx
    have hxm := h.chk x hxl
    have ha := after h m.page x hx
    rw [← Bool.not_eq_true, before_iff hxm] at ha
    have := (meet_false hxm hm).1 (bad_false hb x hxl)
    omega
  refine ⟨fun x hx => ?_, ?_⟩
  · unfold Bk.ins at hx
    rcases List.mem_append.1 hx with hx | hx
    · exact h.chk x ((List.takeWhile_sublist _).subset hx)
    · rcases List.mem_cons.1 hx with rfl | hx
      · exact hm
      · exact h.chk x ((List.dropWhile_sublist _).subset hx)
  · unfold Bk.ins
    rw [List.pairwise_append]
    refine ⟨h.up.sublist (List.takeWhile_sublist _), List.pairwise_cons.2 ⟨h2, h.up.sublist (List.dropWhile_sublist _)⟩, fun a ha b hb' => ?_⟩
    have a1 := h1 a ha
    rcases List.mem_cons.1 hb' with rfl | hb'
    · exact a1
    · have := h2 b hb'
      have := hm.sp
      omega
theorem Ok.add {l : List Mp} (h : Ok l) (m : Mp) : Ok (add l m) := by
  unfold Bk.add
  split
  · rename_i hc
    exact h.ins (mapOk_of hc.1) hc.2
  · exact h
theorem drop_head {l : List Mp} {p : Int} {y : Mp} {r : List Mp} (e : l.dropWhile (before p) = y :: r) : ∃ h : pos l p < l.length, l[pos l p] = y := by
  have hl := congrArg List.length (split l p)
  rw [List.length_append, e, List.length_cons] at hl
  have hp : pos l p < l.length := by unfold pos; omega
  refine ⟨hp, ?_⟩
  have hs := split l p
  rw [e] at hs
  have : l[pos l p]? = some y := by
    have h2 : (l.takeWhile (before p) ++ y :: r)[(l.takeWhile (before p)).length]? = some y := by
      rw [List.getElem?_append_right (Nat.le_refl _)]
      simp
    rw [hs] at h2
    exact h2
  rw [List.getElem?_eq_getElem hp] at this
  exact Option.some.inj this
/-- The mapping of a page: the first that does not lie ahead of it, if it has it. -/
theorem find_head {l : List Mp} (h : Ok l) (p : Int) : find l p = match l.dropWhile (before p) with | [] => none | y :: _ => if over y p then some y else none := by
  have hno : ∀ x ∈ l.takeWhile (before p), over x p = false := fun x hx => by
    have := ahead l p x hx
    unfold before at this
    simp only [Bool.and_eq_true, Bool.not_eq_true'] at this
    exact this.1
  have e0 : find l p = (l.dropWhile (before p)).find? fun x => over x p := by
    unfold find
    conv => lhs; rw [← split l p]
    rw [List.find?_append, List.find?_eq_none.2 (fun x hx => by rw [hno x hx]; simp)]
    rfl
  rw [e0]
  cases e : l.dropWhile (before p) with
  | nil => rfl
  | cons y r =>
    show (y :: r).find? _ = if over y p then some y else none
    rw [List.find?_cons]
    cases hq : over y p with
    | true => rfl
    | false =>
      show r.find? (fun x => over x p) = none
      rw [List.find?_eq_none]
      intro x hx
      have hym := h.chk y ((List.dropWhile_sublist _).subset (by rw [e]; exact List.mem_cons_self ..))
      have hu := h.up.sublist (List.dropWhile_sublist (before p))
      rw [e] at hu
      have h1 := (List.pairwise_cons.1 hu).1 x hx
      have ha := after h p y (by rw [e]; exact List.mem_cons_self ..)
      rw [← Bool.not_eq_true, before_iff hym] at ha
      have := over_false.1 hq
      rw [over_false.2 (.inl (by omega))]
      simp
/-- Without the mapping of a page: the place of the page is left out, if it is its. -/
theorem del_head {l : List Mp} (h : Ok l) (p : Int) : del l p = match l.dropWhile (before p) with | [] => l | y :: r => if over y p then l.takeWhile (before p) ++ r else l := by
  have hno : ∀ x ∈ l.takeWhile (before p), (!over x p) = true := fun x hx => by
    have := ahead l p x hx
    unfold before at this
    simp only [Bool.and_eq_true] at this
    exact this.1
  have e0 : del l p = l.takeWhile (before p) ++ (l.dropWhile (before p)).filter fun x => !over x p := by
    unfold del
    conv => lhs; rw [← split l p]
    rw [List.filter_append, List.filter_eq_self.2 hno]
  rw [e0]
  cases e : l.dropWhile (before p) with
  | nil =>
    have := split l p
    rw [e] at this
    simpa using this
  | cons y r =>
    have hr : ∀ x ∈ r, (!over x p) = true := fun x hx => by
      have hym := h.chk y ((List.dropWhile_sublist _).subset (by rw [e]; exact List.mem_cons_self ..))
      have hu := h.up.sublist (List.dropWhile_sublist (before p))
      rw [e] at hu
      have h1 := (List.pairwise_cons.1 hu).1 x hx
      have ha := after h p y (by rw [e]; exact List.mem_cons_self ..)
      rw [← Bool.not_eq_true, before_iff hym] at ha
      rw [over_false.2 (.inl (by omega))]
      rfl
    show _ = if over y p then _ else _
    rw [List.filter_cons]
    cases hq : over y p with
    | true => simp [List.filter_eq_self.2 hr]
    | false =>
      have := split l p
      rw [e] at this
      simp [List.filter_eq_self.2 hr, this]
theorem Ok.count : ∀ (l : List Mp) (lo : Int), Ok l → 0 ≤ lo → lo ≤ 4096 → (∀ x ∈ l, lo ≤ x.page) → (l.length : Int) ≤ 4096 - lo
  | [], lo, _, _, _, _ => by simp; omega
  | x :: l, lo, h, h0, _, hl => by
    have hx := h.chk x (List.mem_cons_self ..)
    have hlx := hl x (List.mem_cons_self ..)
    have := hx.p1; have := hx.sp
    have := Ok.count l (x.page + span x.size) h.tail (by omega) (by omega) (List.pairwise_cons.1 h.up).1
    simp only [List.length_cons]
    omega
theorem Ok.le {l : List Mp} (h : Ok l) : l.length ≤ 4096 := by
  have := Ok.count l 0 h (by omega) (by omega) (fun x hx => (h.chk x hx).p0)
  omega
/-- Two books of the same mappings are the same. -/
theorem Ok.ext : ∀ {a b : List Mp}, Ok a → Ok b → (∀ x, x ∈ a ↔ x ∈ b) → a = b
  | [], [], _, _, _ => rfl
  | [], y :: b, _, _, h => by have := (h y).2 (List.mem_cons_self ..); cases this
  | x :: a, [], _, _, h => by have := (h x).1 (List.mem_cons_self ..); cases this
  | x :: a, y :: b, ha, hb, h => by
    have hxs := (ha.chk x (List.mem_cons_self ..)).sp
    have hys := (hb.chk y (List.mem_cons_self ..)).sp
    have hx : ∀ z ∈ a, x.page < z.page := fun z hz => by have := (List.pairwise_cons.1 ha.up).1 z hz; omega
    have hy : ∀ z ∈ b, y.page < z.page := fun z hz => by have := (List.pairwise_cons.1 hb.up).1 z hz; omega
    have e : x = y := by
      rcases List.mem_cons.1 ((h x).1 (List.mem_cons_self ..)) with e | h1
      · exact e
      · rcases List.mem_cons.1 ((h y).2 (List.mem_cons_self ..)) with e | h2
        · exact e.symm
        · have := hy x h1
          have := hx y h2
          omega
    subst e
    have := Ok.ext ha.tail hb.tail (fun z => by
      constructor
      · intro hz
        rcases List.mem_cons.1 ((h z).1 (List.mem_cons_of_mem _ hz)) with e | h1
        · have := hx z hz; rw [e] at this; omega
        · exact h1
      · intro hz
        rcases List.mem_cons.1 ((h z).2 (List.mem_cons_of_mem _ hz)) with e | h1
        · have := hy z hz; rw [e] at this; omega
        · exact h1)
    rw [this]
theorem Ok.rights {m : Mp} (h : MapOk m) {r : Int} (h0 : 0 ≤ r) (h7 : r ≤ 7) : MapOk { m with rights := r } := ⟨h.p0, h.p1, h.sp, h.al, h.size, h.f0, h.f1, h.fa, h0, h7⟩
theorem Ok.prot {l : List Mp} (h : Ok l) (p : Int) {r : Int} (h0 : 0 ≤ r) (h7 : r ≤ 7) : Ok (prot l p r) := by
  refine ⟨fun x hx => ?_, ?_⟩
  · obtain ⟨y, hy, rfl⟩ := List.mem_map.1 hx
    split
    · exact Ok.rights (h.chk y hy) h0 h7
    · exact h.chk y hy
  · unfold Bk.prot
    rw [List.pairwise_map]
    refine h.up.imp fun {a b} hab => ?_
    split <;> split <;> exact hab
/-- Other rights for the mapping of a page. -/
theorem prot_head {l : List Mp} (h : Ok l) (p r : Int) : prot l p r = match l.dropWhile (before p) with | [] => l | y :: k => if over y p then l.takeWhile (before p) ++ { y with rights := r } :: k else l := by
  have hid : ∀ k : List Mp, (∀ x ∈ k, over x p = false) → k.map (fun x => if over x p then { x with rights := r } else x) = k := fun k hk => by
    conv => rhs; rw [← List.map_id k]
    refine List.map_congr_left fun x hx => ?_
    rw [hk x hx]
    rfl
  have hno : ∀ x ∈ l.takeWhile (before p), over x p = false := fun x hx => by
    have := ahead l p x hx
    unfold before at this
    simp only [Bool.and_eq_true, Bool.not_eq_true'] at this
    exact this.1
  have e0 : prot l p r = l.takeWhile (before p) ++ (l.dropWhile (before p)).map fun x => if over x p then { x with rights := r } else x := by
    unfold prot
    conv => lhs; rw [← split l p]
    rw [List.map_append, hid _ hno]
  rw [e0]
  cases e : l.dropWhile (before p) with
  | nil =>
    have := split l p
    rw [e] at this
    simpa using this
  | cons y k =>
    have hk : ∀ x ∈ k, over x p = false := fun x hx => by
      have hym := h.chk y ((List.dropWhile_sublist _).subset (by rw [e]; exact List.mem_cons_self ..))
      have hu := h.up.sublist (List.dropWhile_sublist (before p))
      rw [e] at hu
      have h1 := (List.pairwise_cons.1 hu).1 x hx
      have ha := after h p y (by rw [e]; exact List.mem_cons_self ..)
      rw [← Bool.not_eq_true, before_iff hym] at ha
      exact over_false.2 (.inl (by omega))
    show _ = if over y p then _ else _
    rw [List.map_cons, hid k hk]
    cases hq : over y p with
    | true => simp
    | false =>
      have := split l p
      rw [e] at this
      simp [this]
end Bk
end Go.Proofs.Ytmfheghbgihdmaa
