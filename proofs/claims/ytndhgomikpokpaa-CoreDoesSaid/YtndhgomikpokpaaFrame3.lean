/- A step of a core's law, by its cells. -/
import Derived.Test.YtndhgomikpokpaaFrame
namespace Go.Proofs.Ytndhgomikpokpaa
open Go.RowKit

structure Cst where
  op : Int
  k : Int
  i : Int
  w : Int
  a : Ac
  m : Mp
def Cst.cells (x : Cst) : List Value := [(Value.int .i64) x.op, (Value.int .i64) x.k, (Value.int .i64) x.i, (Value.int .u64) x.w, (Value.int .i64) x.a.page, (Value.int .i64) x.a.kind, Value.bool x.a.user, (Value.int .i64) x.m.page, (Value.int .i64) x.m.size, (Value.int .i64) x.m.frame, (Value.int .i64) x.m.rights]
def Cst.ok (x : Cst) : Prop := i64 x.op ∧ i64 x.k ∧ i64 x.i ∧ u64 x.w ∧ x.a.ok ∧ x.m.ok
theorem cells_cst {cs : List Value} (h : CellsOk [some .i64, some .i64, some .i64, some .u64, some .i64, some .i64, none, some .i64, some .i64, some .i64, some .i64] cs) : ∃ x : Cst, cs = x.cells ∧ x.ok := by
  obtain ⟨a, c1, rfl, wa, g1⟩ := h.int
  obtain ⟨b, c2, rfl, wb, g2⟩ := g1.int
  obtain ⟨c, c3, rfl, wc, g3⟩ := g2.int
  obtain ⟨d, c4, rfl, wd, g4⟩ := g3.int
  obtain ⟨p, c7, rfl, wp, g7⟩ := g4.int
  obtain ⟨k, c8, rfl, wk, g8⟩ := g7.int
  obtain ⟨u, c9, rfl, g9⟩ := g8.bool
  obtain ⟨m0, e0, rfl, v0, f0⟩ := g9.int
  obtain ⟨m1, e1, rfl, v1, f1⟩ := f0.int
  obtain ⟨m2, e2, rfl, v2, f2⟩ := f1.int
  obtain ⟨m3, e3, rfl, v3, f3⟩ := f2.int
  obtain rfl := f3.nil
  exact ⟨⟨a, b, c, d, ⟨p, k, u⟩, ⟨m0, m1, m2, m3⟩⟩, rfl, wf_i64' wa, wf_i64' wb, wf_i64' wc, wf_u64' wd, ⟨wf_i64' wp, wf_i64' wk⟩, wf_i64' v0, wf_i64' v1, wf_i64' v2, wf_i64' v3⟩
end Go.Proofs.Ytndhgomikpokpaa
