/- The end of a function whose result stands in cells: the last world as an atom, with its cells as facts. Plain lemmas. -/
import Derived.Test.YtndhgomikpokpaaSep
import Derived.Test.YtndhgomikpokpaaEq
import Derived.Laws.Rows
namespace Go.Proofs.Ytndhgomikpokpaa
open Go.RowKit

theorem Has.set6 {w : World} {R : HProp} {b : Nat} {v0 v1 v2 v3 v4 v5 : Value} {t : TypeId} (h : Has w (blk b #[v0, v1, v2, v3, v4, v5] t * R)) (u0 u1 u2 u3 u4 u5 : Value) :
    Has ((((((w.setCell ⟨b, 0, none⟩ u0).setCell ⟨b, 1, none⟩ u1).setCell ⟨b, 2, none⟩ u2).setCell ⟨b, 3, none⟩ u3).setCell ⟨b, 4, none⟩ u4).setCell ⟨b, 5, none⟩ u5) (blk b #[u0, u1, u2, u3, u4, u5] t * R) :=
  (((((h.set 0 u0).set 1 u1).set 2 u2).set 3 u3).set 4 u4).set 5 u5
theorem Has.frees6 {w : World} {R : HProp} {b : Nat} {v0 v1 v2 v3 v4 v5 : Value} {t : TypeId} (h : Has w (blk b #[v0, v1, v2, v3, v4, v5] t * R)) :
    w.frozen? ⟨b, 0, none⟩ = false ∧ w.frozen? ⟨b, 1, none⟩ = false ∧ w.frozen? ⟨b, 2, none⟩ = false ∧ w.frozen? ⟨b, 3, none⟩ = false ∧ w.frozen? ⟨b, 4, none⟩ = false ∧ w.frozen? ⟨b, 5, none⟩ = false :=
  ⟨h.free 0, h.free 1, h.free 2, h.free 3, h.free 4, h.free 5⟩
theorem ret_via {P : Program} {fn : Func} {R : Ending → World → Prop} {a : Act} {w : World} (F : World → Prop) (hF : F w) (h : ∀ wz, F wz → bodyPost P fn R .ret a wz) : bodyPost P fn R .ret a w := h w hF

section
variable {P : Program} {fn : Func} {tmps : Array Value} {w : World}
/-- One result, in cells. -/
theorem results_c {a : Nat} {t : TypeId} {p : Addr} {v : Value} (hr : fn.results = #[.cell a t]) (ha : tmps.getD a undef = .pointer (some p)) (hl : (loadVar t p).run P w = .ok v w) : (results fn tmps).run P w = .ok v w := by
  unfold results
  rw [hr]
  simp only [Array.getD_eq_getD_getElem?] at ha
  simp [asAddr, ha, hl]
/-- Two results: the first in cells. -/
theorem results_ct {a b : Nat} {t : TypeId} {p : Addr} {v u : Value} (hr : fn.results = #[.cell a t, .tmp b]) (ha : tmps.getD a undef = .pointer (some p)) (hb : tmps.getD b undef = u) (hl : (loadVar t p).run P w = .ok v w) :
    (results fn tmps).run P w = .ok (.tuple #[v, u]) w := by
  unfold results
  rw [hr]
  simp only [Array.getD_eq_getD_getElem?] at ha hb
  simp [asAddr, ha, hb, hl]
/-- Three results: the first in cells. -/
theorem results_ctt {a b c : Nat} {t : TypeId} {p : Addr} {v u x : Value} (hr : fn.results = #[.cell a t, .tmp b, .tmp c]) (ha : tmps.getD a undef = .pointer (some p)) (hb : tmps.getD b undef = u) (hc : tmps.getD c undef = x) (hl : (loadVar t p).run P w = .ok v w) :
    (results fn tmps).run P w = .ok (.tuple #[v, u, x]) w := by
  unfold results
  rw [hr]
  simp only [Array.getD_eq_getD_getElem?] at ha hb hc
  simp [asAddr, ha, hb, hc, hl]
end
theorem load_entry {w : World} {R : HProp} {b : Nat} {v0 v1 v2 v3 v4 v5 : Value} (h : Has w (blk b #[v0, v1, v2, v3, v4, v5] 58 * R)) : (loadVar 58 ⟨b, 0, none⟩).run Try.prog w = .ok (.agg #[v0, v1, v2, v3, v4, v5]) w :=
  run_loadVar_row w b 58 58 _ _ _ h.heap Try.underlying58 rfl (by kernel_rfl)
theorem load_map {w : World} {R : HProp} {b : Nat} {v0 v1 v2 v3 : Value} (h : Has w (blk b #[v0, v1, v2, v3] 27 * R)) : (loadVar 27 ⟨b, 0, none⟩).run Try.prog w = .ok (.agg #[v0, v1, v2, v3]) w :=
  run_loadVar_row w b 27 27 _ _ _ h.heap Try.underlying27 rfl (by kernel_rfl)
theorem load_answer {w : World} {R : HProp} {b : Nat} {v0 v1 v2 : Value} (h : Has w (blk b #[v0, v1, v2] 49 * R)) : (loadVar 49 ⟨b, 0, none⟩).run Try.prog w = .ok (.agg #[v0, v1, v2]) w :=
  run_loadVar_row w b 49 49 _ _ _ h.heap Try.underlying49 rfl (by kernel_rfl)
theorem load_fault {w : World} {R : HProp} {b : Nat} {v0 v1 : Value} (h : Has w (blk b #[v0, v1] 162 * R)) : (loadVar 162 ⟨b, 0, none⟩).run Try.prog w = .ok (.agg #[v0, v1]) w :=
  run_loadVar_row w b 162 162 _ _ _ h.heap Try.underlying162 rfl (by kernel_rfl)
end Go.Proofs.Ytndhgomikpokpaa
