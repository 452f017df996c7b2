/- Steps of the frames' laws as plain values; both memories of frames side by side. -/
import Derived.Test.YtoppmollbodigaaFrm
import Derived.Deep.DeepCutAuto
import Derived.Deep.CutBlock
import Derived.Deep.LoopGhost
import Derived.Deep.RegionHeld3
namespace Go.Proofs.Ytoppmollbodigaa
open Go.RowKit
set_option maxRecDepth 100000

structure Fst where
  op : Int
  k : Int
  i : Int
  old : Int
  wd : Int
def Fst.cells (x : Fst) : List Value := [(Value.int .i64) x.op, (Value.int .i64) x.k, (Value.int .i64) x.i, (Value.int .u64) x.old, (Value.int .u64) x.wd]
def Fst.ok (x : Fst) : Prop := i64 x.op ∧ i64 x.k ∧ i64 x.i ∧ u64 x.old ∧ u64 x.wd
theorem cells_fst {cs : List Value} (h : CellsOk [some .i64, some .i64, some .i64, some .u64, some .u64] cs) : ∃ x : Fst, cs = x.cells ∧ x.ok := by
  obtain ⟨a, c1, rfl, wa, g1⟩ := h.int
  obtain ⟨b, c2, rfl, wb, g2⟩ := g1.int
  obtain ⟨c, c3, rfl, wc, g3⟩ := g2.int
  obtain ⟨d, c4, rfl, wd, g4⟩ := g3.int
  obtain ⟨e, c5, rfl, we, g5⟩ := g4.int
  obtain rfl := g5.nil
  exact ⟨⟨a, b, c, d, e⟩, rfl, wf_i64' wa, wf_i64' wb, wf_i64' wc, wf_u64' wd, wf_u64' we⟩

end Go.Proofs.Ytoppmollbodigaa
