/- Steps of the laws on what is kept, books and walks, as plain values out of their cells. -/
import Derived.Test.YtndhgomikpokpaaFrame
import Derived.Test.YtndhgomikpokpaaTlbM
namespace Go.Proofs.Ytndhgomikpokpaa
open Go.RowKit

/-- A step of the laws on what is kept. -/
structure Lst where
  op : Int
  k : Int
  m : Mp
def Lst.cells (x : Lst) : List Value := [(Value.int .i64) x.op, (Value.int .i64) x.k, (Value.int .i64) x.m.page, (Value.int .i64) x.m.size, (Value.int .i64) x.m.frame, (Value.int .i64) x.m.rights]
def Lst.ok (x : Lst) : Prop := i64 x.op ∧ i64 x.k ∧ x.m.ok
theorem cells_lst {cs : List Value} (h : CellsOk [some .i64, some .i64, some .i64, some .i64, some .i64, some .i64] cs) : ∃ x : Lst, cs = x.cells ∧ x.ok := by
  obtain ⟨a, c1, rfl, wa, g1⟩ := h.int
  obtain ⟨b, c2, rfl, wb, g2⟩ := g1.int
  obtain ⟨c, c3, rfl, wc, g3⟩ := g2.int
  obtain ⟨d, c4, rfl, wd, g4⟩ := g3.int
  obtain ⟨e, c5, rfl, we, g5⟩ := g4.int
  obtain ⟨f, c6, rfl, wf, g6⟩ := g5.int
  obtain rfl := g6.nil
  exact ⟨⟨a, b, ⟨c, d, e, f⟩⟩, rfl, wf_i64' wa, wf_i64' wb, wf_i64' wc, wf_i64' wd, wf_i64' we, wf_i64' wf⟩
/-- A word. -/
def cellsU (n : Int) : List Value := [(Value.int .u64) n]
theorem cells_u64 {cs : List Value} (h : CellsOk [some .u64] cs) : ∃ n : Int, cs = cellsU n ∧ u64 n := by
  obtain ⟨a, c1, rfl, wa, g1⟩ := h.int
  obtain rfl := g1.nil
  exact ⟨a, rfl, wf_u64' wa⟩
/-- A step of a script. -/
structure Stp where
  kind : Int
  core : Int
  m : Mp
  a : Ac
def Stp.cells (x : Stp) : List Value := [(Value.int .i64) x.kind, (Value.int .i64) x.core, (Value.int .i64) x.m.page, (Value.int .i64) x.m.size, (Value.int .i64) x.m.frame, (Value.int .i64) x.m.rights, (Value.int .i64) x.a.page, (Value.int .i64) x.a.kind, Value.bool x.a.user]
def Stp.ok (x : Stp) : Prop := i64 x.kind ∧ i64 x.core ∧ x.m.ok ∧ x.a.ok
theorem cells_stp {cs : List Value} (h : CellsOk [some .i64, some .i64, some .i64, some .i64, some .i64, some .i64, some .i64, some .i64, none] cs) : ∃ x : Stp, cs = x.cells ∧ x.ok := by
  obtain ⟨a, c1, rfl, wa, g1⟩ := h.int
  obtain ⟨b, c2, rfl, wb, g2⟩ := g1.int
  obtain ⟨c, c3, rfl, wc, g3⟩ := g2.int
  obtain ⟨d, c4, rfl, wd, g4⟩ := g3.int
  obtain ⟨e, c5, rfl, we, g5⟩ := g4.int
  obtain ⟨f, c6, rfl, wf, g6⟩ := g5.int
  obtain ⟨p, c7, rfl, wp, g7⟩ := g6.int
  obtain ⟨k, c8, rfl, wk, g8⟩ := g7.int
  obtain ⟨u, c9, rfl, g9⟩ := g8.bool
  obtain rfl := g9.nil
  exact ⟨⟨a, b, ⟨c, d, e, f⟩, ⟨p, k, u⟩⟩, rfl, wf_i64' wa, wf_i64' wb, ⟨wf_i64' wc, wf_i64' wd, wf_i64' we, wf_i64' wf⟩, wf_i64' wp, wf_i64' wk⟩
/-- A step of the laws on walks. -/
structure Wst where
  op : Int
  k : Int
  i : Int
  w : Int
  a : Ac
def Wst.cells (x : Wst) : List Value := [(Value.int .i64) x.op, (Value.int .i64) x.k, (Value.int .i64) x.i, (Value.int .u64) x.w, (Value.int .i64) x.a.page, (Value.int .i64) x.a.kind, Value.bool x.a.user]
def Wst.ok (x : Wst) : Prop := i64 x.op ∧ i64 x.k ∧ i64 x.i ∧ u64 x.w ∧ x.a.ok
theorem cells_wst {cs : List Value} (h : CellsOk [some .i64, some .i64, some .i64, some .u64, some .i64, some .i64, none] cs) : ∃ x : Wst, cs = x.cells ∧ x.ok := by
  obtain ⟨a, c1, rfl, wa, g1⟩ := h.int
  obtain ⟨b, c2, rfl, wb, g2⟩ := g1.int
  obtain ⟨c, c3, rfl, wc, g3⟩ := g2.int
  obtain ⟨d, c4, rfl, wd, g4⟩ := g3.int
  obtain ⟨p, c7, rfl, wp, g7⟩ := g4.int
  obtain ⟨k, c8, rfl, wk, g8⟩ := g7.int
  obtain ⟨u, c9, rfl, g9⟩ := g8.bool
  obtain rfl := g9.nil
  exact ⟨⟨a, b, c, d, ⟨p, k, u⟩⟩, rfl, wf_i64' wa, wf_i64' wb, wf_i64' wc, wf_u64' wd, wf_i64' wp, wf_i64' wk⟩
end Go.Proofs.Ytndhgomikpokpaa
