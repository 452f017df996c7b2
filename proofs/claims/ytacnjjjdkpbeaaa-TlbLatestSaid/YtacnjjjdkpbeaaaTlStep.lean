/- What the laws on what is kept share: how the cells of a line in a quiet region read. -/
import Derived.Test.YtacnjjjdkpbeaaaTlBegun
import Derived.Test.YtacnjjjdkpbeaaaFrm
import Derived.Deep.DeepCutAuto
import Derived.Deep.CutBlock
import Derived.Deep.RegionHeld3
namespace Go.Proofs.Ytacnjjjdkpbeaaa
open Go.RowKit
set_option maxRecDepth 100000

/-- A step's line. -/
def Lst.ln (x : Lst) : Ln := ⟨x.m, decide (0 < x.k)⟩
/-- The mapping of a line of a slice, in any world of the class. -/
theorem lrow_via {w : World} {R : HProp} {A : Option Addr} {n c : Nat} {l : List Ln} (h : Has w (lrow (.slice A n c) l * R)) {k : Nat} (hk : k < l.length) :
    ∃ b, A = some ⟨b, 0, none⟩ ∧ ∀ u, ((via w u).cell? ⟨b, k * 5, none⟩ = some ((Value.int .i64) l[k].m.page) ∧ (via w u).cell? ⟨b, k * 5 + 1, none⟩ = some ((Value.int .i64) l[k].m.size) ∧ (via w u).cell? ⟨b, k * 5 + 2, none⟩ = some ((Value.int .i64) l[k].m.frame) ∧ (via w u).cell? ⟨b, k * 5 + 3, none⟩ = some ((Value.int .i64) l[k].m.rights) ∧ (via w u).cell? ⟨b, k * 5 + 4, none⟩ = some (Value.bool l[k].dirty)) := by
  obtain ⟨b, rfl, _, ⟨c0, c1, c2, c3, c4⟩, _⟩ := lrow_at h hk
  exact ⟨b, rfl, fun u => ⟨via_cell c0 u, via_cell c1 u, via_cell c2 u, via_cell c3 u, via_cell c4 u⟩⟩
end Go.Proofs.Ytacnjjjdkpbeaaa
