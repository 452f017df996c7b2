/- Steps of a script, out of the argument: their cells. -/
import Derived.Test.YtndhgomikpokpaaFrame
namespace Go.Proofs.Ytndhgomikpokpaa
open Go.RowKit
theorem Arr.stp {w : World} {A : Option Addr} {n : Nat} {l : List Stp} (h : Arr w A n 9 (l.map Stp.cells)) {i : Nat} (hi : i < l.length) : ∃ b off, A = some ⟨b, off, none⟩ ∧ b < w.heap.size ∧
    (w.cell? ⟨b, off + i * 9, none⟩ = some ((Value.int .i64) l[i].kind) ∧ w.cell? ⟨b, off + i * 9 + 1, none⟩ = some ((Value.int .i64) l[i].core) ∧ w.cell? ⟨b, off + i * 9 + 2, none⟩ = some ((Value.int .i64) l[i].m.page) ∧ w.cell? ⟨b, off + i * 9 + 3, none⟩ = some ((Value.int .i64) l[i].m.size) ∧
      w.cell? ⟨b, off + i * 9 + 4, none⟩ = some ((Value.int .i64) l[i].m.frame) ∧ w.cell? ⟨b, off + i * 9 + 5, none⟩ = some ((Value.int .i64) l[i].m.rights) ∧ w.cell? ⟨b, off + i * 9 + 6, none⟩ = some ((Value.int .i64) l[i].a.page) ∧ w.cell? ⟨b, off + i * 9 + 7, none⟩ = some ((Value.int .i64) l[i].a.kind) ∧
      w.cell? ⟨b, off + i * 9 + 8, none⟩ = some (Value.bool l[i].a.user)) := by
  obtain ⟨b, off, hb, hbl, hc⟩ := h.at_ (i := i) (xs := (l[i]).cells) (by simp [hi])
  exact ⟨b, off, hb, hbl, hc 0 _ rfl, hc 1 _ rfl, hc 2 _ rfl, hc 3 _ rfl, hc 4 _ rfl, hc 5 _ rfl, hc 6 _ rfl, hc 7 _ rfl, hc 8 _ rfl⟩
/-- A step's cells in a block of its own. -/
abbrev Stp.arr (x : Stp) : Array Value := #[(Value.int .i64) x.kind, (Value.int .i64) x.core, (Value.int .i64) x.m.page, (Value.int .i64) x.m.size, (Value.int .i64) x.m.frame, (Value.int .i64) x.m.rights, (Value.int .i64) x.a.page, (Value.int .i64) x.a.kind, Value.bool x.a.user]
theorem Has.cells9 {w : World} {R : HProp} {b : Nat} {v0 v1 v2 v3 v4 v5 v6 v7 v8 : Value} {t : TypeId} (h : Has w (blk b #[v0, v1, v2, v3, v4, v5, v6, v7, v8] t * R)) :
    w.cell? ⟨b, 0, none⟩ = some v0 ∧ w.cell? ⟨b, 1, none⟩ = some v1 ∧ w.cell? ⟨b, 2, none⟩ = some v2 ∧ w.cell? ⟨b, 3, none⟩ = some v3 ∧ w.cell? ⟨b, 4, none⟩ = some v4 ∧ w.cell? ⟨b, 5, none⟩ = some v5 ∧
      w.cell? ⟨b, 6, none⟩ = some v6 ∧ w.cell? ⟨b, 7, none⟩ = some v7 ∧ w.cell? ⟨b, 8, none⟩ = some v8 :=
  ⟨h.cell 0, h.cell 1, h.cell 2, h.cell 3, h.cell 4, h.cell 5, h.cell 6, h.cell 7, h.cell 8⟩
end Go.Proofs.Ytndhgomikpokpaa
