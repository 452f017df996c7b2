/- Lemmas for the document's Core.Step. -/
import Derived.Test.YtndhgomikpokpaaCoreS
import Derived.Test.YtndhgomikpokpaaWkr2
import Derived.Test.YtndhgomikpokpaaWkrM
import Derived.Test.YtndhgomikpokpaaWkFind
import Derived.Test.YtndhgomikpokpaaRefPage
import Derived.Test.YtndhgomikpokpaaRefEnt
import Derived.Test.YtndhgomikpokpaaRefEnt4
import Derived.Test.YtndhgomikpokpaaRefEnt5
import Derived.Test.YtndhgomikpokpaaOrdL
import Derived.BigQuiet
import Derived.Deep.RegionHeld3
namespace Go.Proofs.Ytndhgomikpokpaa
open Go.RowKit
set_option maxRecDepth 100000

theorem core_cells {q c : Nat} {A : Option Addr} {l : List Ln} {k : Ck} {R : HProp} {w : World} (h : Has w (coreIn q A c l k R)) :
    w.cell? ⟨q, 1, none⟩ = some (Value.bool k.on) ∧ w.cell? ⟨q, 2, none⟩ = some ((Value.int .i64) k.a.page) ∧ w.cell? ⟨q, 3, none⟩ = some ((Value.int .i64) k.a.kind) ∧ w.cell? ⟨q, 4, none⟩ = some (Value.bool k.a.user) ∧ w.cell? ⟨q, 5, none⟩ = some ((Value.int .i64) k.t) ∧ w.cell? ⟨q, 6, none⟩ = some ((Value.int .i64) k.level) ∧ w.cell? ⟨q, 7, none⟩ = some (Value.bool k.mark) ∧ w.cell? ⟨q, 8, none⟩ = some ((Value.int .u64) k.w) ∧ q < w.heap.size := by
  unfold coreIn coreBlk at h
  exact ⟨h.cell 1, h.cell 2, h.cell 3, h.cell 4, h.cell 5, h.cell 6, h.cell 7, h.cell 8, h.lt⟩
theorem Has.set3 {w : World} {R : HProp} {b : Nat} {v0 v1 v2 : Value} {t : TypeId} (h : Has w (blk b #[v0, v1, v2] t * R)) (u0 u1 u2 : Value) :
    Has (((w.setCell ⟨b, 0, none⟩ u0).setCell ⟨b, 1, none⟩ u1).setCell ⟨b, 2, none⟩ u2) (blk b #[u0, u1, u2] t * R) := ((h.set 0 u0).set 1 u1).set 2 u2
theorem core_in {w : World} {q c : Nat} {A : Option Addr} {l : List Ln} {k : Ck} {B R : HProp} (h : Has w (B * coreIn q A c l k R)) : Has w (coreIn q A c l k (B * R)) := h.eq (by unfold coreIn; ac_rfl)
theorem core_out {w : World} {q c : Nat} {A : Option Addr} {l : List Ln} {k : Ck} {B R : HProp} (h : Has w (coreIn q A c l k (B * R))) : Has w (B * coreIn q A c l k R) := h.eq (by unfold coreIn; ac_rfl)
theorem coreAt_out {w : World} {q : Nat} {l : List Ln} {k : Ck} {B R : HProp} (h : Has w (coreAt q l k * (B * R))) : Has w (B * (coreAt q l k * R)) := h.p2
end Go.Proofs.Ytndhgomikpokpaa
