/-
  No cell of these rows narrows 'for every input' (looked for: loops, veiled, ifaces, maps, wideKeys, modest, calm, conditions, laid).
  DERIVED. THE GIVEN ROWS OF THIS SEAT. 8 by the template 'for every input the law returns true; each argument reads behind the call as it read before'; 0 by the template 'total and deterministic' (their statements: YtmfheghbgihdmaaGreatTotals.lean).
  GIVEN WITH THE SEED: the statements are not yours to turn. If you find one false, say at which input.
  Laid BY PROGRAM, IN A SANDBOX (cutbox-rows.mjs): the forced cells as the released guide's own fill.sh prints them over the translation 121cfd621fc0626e… (all of the seat's roots in one cut). By AI agents, Wed Nov 11 2026. No macro, syntax, notation, axiom, sorry.
-/
import Derived.Test.YtmfheghbgihdmaaGreatChecked
import GoSem.Claim
import GoSem.ClaimJoined
import GoSem.ClaimMapViews
import Derived.JoinedTies
import Derived.KernelRfl
namespace Go.Proofs.YtmfheghbgihdmaaGreat
/- THE CELL 'sum', in the pinned program and in every row, IS THE sha256 OF THE DUMP (.gsa) THAT YtmfheghbgihdmaaGreatProg.lean LOADS. Nothing in Lean hashes anything: it is a label: what it is worth is what the hold of that sum in a sandbox is worth. -/
noncomputable def Tryz.pinned : Pinned := { name := "ytmfheghbgihdmaagreat", sum := "121cfd621fc0626e2e1e4b5d21b9cfeb3064e56b1f0aeb61a106ab0d08516f7b", checked := Tryz.checked }
namespace Rows
def none {H : Type} : Left H := { results := [], args := [] }

/-- 'wayleavelaw.SpaceDoes': WHATEVER THE INPUT: true; the input reads as it did. -/
def spaceDoesSpec : ChangeSpec := { name := "spaceDoes", fn := fun _ => fun
  | [d1, d2, d3] => { results := [.lit (.bool true)], args := [d1, d2, d3] }
  | _ => none }
def spaceDoesRow : OpenClaim := { program := "ytmfheghbgihdmaagreat", sum := "121cfd621fc0626e2e1e4b5d21b9cfeb3064e56b1f0aeb61a106ab0d08516f7b", func := "wayleave/wayleavelaw.SpaceDoes", spec := "spaceDoes", unfollowed := true, recurses := true, apart := false }
def SpaceDoesSaid : Prop := spaceDoesRow.holds Tryz.pinned (OpenSpec.ofChange spaceDoesSpec)

/-- ITS FALSE NEIGHBOUR: 'it returns false'. Refute it at one input. -/
def spaceDoesWrong : ChangeSpec := { name := "spaceDoes", fn := fun _ => fun
  | [d1, d2, d3] => { results := [.lit (.bool false)], args := [d1, d2, d3] }
  | _ => none }
def SpaceDoesWrongFalsely : Prop := spaceDoesRow.holds Tryz.pinned (OpenSpec.ofChange spaceDoesWrong)

/-- 'wayleavelaw.WatchTimes': WHATEVER THE INPUT: true; the input reads as it did. -/
def watchTimesSpec : ChangeSpec := { name := "watchTimes", fn := fun _ => fun
  | [d1, d2, d3] => { results := [.lit (.bool true)], args := [d1, d2, d3] }
  | _ => none }
def watchTimesRow : OpenClaim := { program := "ytmfheghbgihdmaagreat", sum := "121cfd621fc0626e2e1e4b5d21b9cfeb3064e56b1f0aeb61a106ab0d08516f7b", func := "wayleave/wayleavelaw.WatchTimes", spec := "watchTimes", inPlace := ["slices.overlaps[wayleave/api.Map]"], unfollowed := true, recurses := true, apart := false }
def WatchTimesSaid : Prop := watchTimesRow.holds Tryz.pinned (OpenSpec.ofChange watchTimesSpec)

/-- ITS FALSE NEIGHBOUR: 'it returns false'. Refute it at one input. -/
def watchTimesWrong : ChangeSpec := { name := "watchTimes", fn := fun _ => fun
  | [d1, d2, d3] => { results := [.lit (.bool false)], args := [d1, d2, d3] }
  | _ => none }
def WatchTimesWrongFalsely : Prop := watchTimesRow.holds Tryz.pinned (OpenSpec.ofChange watchTimesWrong)

/-- 'wayleavelaw.WatchNow': WHATEVER THE INPUT: true; the input reads as it did. -/
def watchNowSpec : ChangeSpec := { name := "watchNow", fn := fun _ => fun
  | [d1, d2, d3] => { results := [.lit (.bool true)], args := [d1, d2, d3] }
  | _ => none }
def watchNowRow : OpenClaim := { program := "ytmfheghbgihdmaagreat", sum := "121cfd621fc0626e2e1e4b5d21b9cfeb3064e56b1f0aeb61a106ab0d08516f7b", func := "wayleave/wayleavelaw.WatchNow", spec := "watchNow", inPlace := ["slices.overlaps[wayleave/api.Map]"], unfollowed := true, recurses := true, apart := false }
def WatchNowSaid : Prop := watchNowRow.holds Tryz.pinned (OpenSpec.ofChange watchNowSpec)

/-- ITS FALSE NEIGHBOUR: 'it returns false'. Refute it at one input. -/
def watchNowWrong : ChangeSpec := { name := "watchNow", fn := fun _ => fun
  | [d1, d2, d3] => { results := [.lit (.bool false)], args := [d1, d2, d3] }
  | _ => none }
def WatchNowWrongFalsely : Prop := watchNowRow.holds Tryz.pinned (OpenSpec.ofChange watchNowWrong)

/-- 'wayleavelaw.WatchDoes': WHATEVER THE INPUT: true; the input reads as it did. -/
def watchDoesSpec : ChangeSpec := { name := "watchDoes", fn := fun _ => fun
  | [d1, d2, d3] => { results := [.lit (.bool true)], args := [d1, d2, d3] }
  | _ => none }
def watchDoesRow : OpenClaim := { program := "ytmfheghbgihdmaagreat", sum := "121cfd621fc0626e2e1e4b5d21b9cfeb3064e56b1f0aeb61a106ab0d08516f7b", func := "wayleave/wayleavelaw.WatchDoes", spec := "watchDoes", inPlace := ["slices.overlaps[wayleave/api.Map]"], unfollowed := true, recurses := true, apart := false }
def WatchDoesSaid : Prop := watchDoesRow.holds Tryz.pinned (OpenSpec.ofChange watchDoesSpec)

/-- ITS FALSE NEIGHBOUR: 'it returns false'. Refute it at one input. -/
def watchDoesWrong : ChangeSpec := { name := "watchDoes", fn := fun _ => fun
  | [d1, d2, d3] => { results := [.lit (.bool false)], args := [d1, d2, d3] }
  | _ => none }
def WatchDoesWrongFalsely : Prop := watchDoesRow.holds Tryz.pinned (OpenSpec.ofChange watchDoesWrong)

/-- 'wayleavelaw.TraceRuns': WHATEVER THE INPUT: true; the input reads as it did. -/
def traceRunsSpec : ChangeSpec := { name := "traceRuns", fn := fun _ => fun
  | [d1, d2, d3] => { results := [.lit (.bool true)], args := [d1, d2, d3] }
  | _ => none }
def traceRunsRow : OpenClaim := { program := "ytmfheghbgihdmaagreat", sum := "121cfd621fc0626e2e1e4b5d21b9cfeb3064e56b1f0aeb61a106ab0d08516f7b", func := "wayleave/wayleavelaw.TraceRuns", spec := "traceRuns", inPlace := ["slices.overlaps[wayleave/api.Map]"], unfollowed := true, recurses := true, apart := false }
def TraceRunsSaid : Prop := traceRunsRow.holds Tryz.pinned (OpenSpec.ofChange traceRunsSpec)

/-- ITS FALSE NEIGHBOUR: 'it returns false'. Refute it at one input. -/
def traceRunsWrong : ChangeSpec := { name := "traceRuns", fn := fun _ => fun
  | [d1, d2, d3] => { results := [.lit (.bool false)], args := [d1, d2, d3] }
  | _ => none }
def TraceRunsWrongFalsely : Prop := traceRunsRow.holds Tryz.pinned (OpenSpec.ofChange traceRunsWrong)

/-- 'wayleavelaw.TraceParts': WHATEVER THE INPUT: true; the input reads as it did. -/
def tracePartsSpec : ChangeSpec := { name := "traceParts", fn := fun _ => fun
  | [d1, d2, d3, d4] => { results := [.lit (.bool true)], args := [d1, d2, d3, d4] }
  | _ => none }
def tracePartsRow : OpenClaim := { program := "ytmfheghbgihdmaagreat", sum := "121cfd621fc0626e2e1e4b5d21b9cfeb3064e56b1f0aeb61a106ab0d08516f7b", func := "wayleave/wayleavelaw.TraceParts", spec := "traceParts", inPlace := ["slices.overlaps[wayleave/api.Map]"], unfollowed := true, recurses := true, apart := false }
def TracePartsSaid : Prop := tracePartsRow.holds Tryz.pinned (OpenSpec.ofChange tracePartsSpec)

/-- ITS FALSE NEIGHBOUR: 'it returns false'. Refute it at one input. -/
def tracePartsWrong : ChangeSpec := { name := "traceParts", fn := fun _ => fun
  | [d1, d2, d3, d4] => { results := [.lit (.bool false)], args := [d1, d2, d3, d4] }
  | _ => none }
def TracePartsWrongFalsely : Prop := tracePartsRow.holds Tryz.pinned (OpenSpec.ofChange tracePartsWrong)

/-- 'wayleavelaw.WatchSame': WHATEVER THE INPUT: true; the input reads as it did. -/
def watchSameSpec : ChangeSpec := { name := "watchSame", fn := fun _ => fun
  | [d1, d2, d3] => { results := [.lit (.bool true)], args := [d1, d2, d3] }
  | _ => none }
def watchSameRow : OpenClaim := { program := "ytmfheghbgihdmaagreat", sum := "121cfd621fc0626e2e1e4b5d21b9cfeb3064e56b1f0aeb61a106ab0d08516f7b", func := "wayleave/wayleavelaw.WatchSame", spec := "watchSame", inPlace := ["slices.overlaps[wayleave/api.Map]"], unfollowed := true, recurses := true, apart := false }
def WatchSameSaid : Prop := watchSameRow.holds Tryz.pinned (OpenSpec.ofChange watchSameSpec)

/-- ITS FALSE NEIGHBOUR: 'it returns false'. Refute it at one input. -/
def watchSameWrong : ChangeSpec := { name := "watchSame", fn := fun _ => fun
  | [d1, d2, d3] => { results := [.lit (.bool false)], args := [d1, d2, d3] }
  | _ => none }
def WatchSameWrongFalsely : Prop := watchSameRow.holds Tryz.pinned (OpenSpec.ofChange watchSameWrong)

/-- 'wayleavelaw.TraceCalms': WHATEVER THE INPUT: true; the input reads as it did. -/
def traceCalmsSpec : ChangeSpec := { name := "traceCalms", fn := fun _ => fun
  | [d1, d2, d3, d4] => { results := [.lit (.bool true)], args := [d1, d2, d3, d4] }
  | _ => none }
def traceCalmsRow : OpenClaim := { program := "ytmfheghbgihdmaagreat", sum := "121cfd621fc0626e2e1e4b5d21b9cfeb3064e56b1f0aeb61a106ab0d08516f7b", func := "wayleave/wayleavelaw.TraceCalms", spec := "traceCalms", inPlace := ["slices.overlaps[wayleave/api.Map]"], unfollowed := true, recurses := true, apart := false }
def TraceCalmsSaid : Prop := traceCalmsRow.holds Tryz.pinned (OpenSpec.ofChange traceCalmsSpec)

/-- ITS FALSE NEIGHBOUR: 'it returns false'. Refute it at one input. -/
def traceCalmsWrong : ChangeSpec := { name := "traceCalms", fn := fun _ => fun
  | [d1, d2, d3, d4] => { results := [.lit (.bool false)], args := [d1, d2, d3, d4] }
  | _ => none }
def TraceCalmsWrongFalsely : Prop := traceCalmsRow.holds Tryz.pinned (OpenSpec.ofChange traceCalmsWrong)

/- THE SECOND FORM. 'bulk': how many values and letters a reading holds, each counted each time it is reached (what is shared counts as often as it is met; a slice's spare places count too). A statement '..UptoSaid' is the law's where the arguments, and the package variables that the reading takes, are together of bulk at most 1048576: NARROWER than '..Said'. Prove '..Said' where nothing that the law and all that it calls make is longer than what came in: it says more and counts as full. Else prove '..UptoSaid'. A law counts once. -/
mutual
def uptoBulk {H : Type} : DataW H → Nat
  | .lit (.string bytes) => bytes.length + 1
  | .lit _ => 1
  | .nil => 1
  | .ptr d => uptoBulk d + 1
  | .slice elems spare => uptoBulkAll elems + uptoBulkAll spare + 1
  | .agg parts => uptoBulkAll parts + 1
  | .iface _ d => uptoBulk d + 1
  | .map entries => uptoBulkEntries entries + 1
  | .held _ => 1
def uptoBulkAll {H : Type} : List (DataW H) → Nat
  | [] => 0
  | d :: r => uptoBulk d + uptoBulkAll r
def uptoBulkEntries {H : Type} : List (Lit × DataW H) → Nat
  | [] => 0
  | x :: r => uptoBulkEntry x + uptoBulkEntries r
def uptoBulkEntry {H : Type} : Lit × DataW H → Nat
  | (.string bytes, d) => bytes.length + uptoBulk d + 1
  | (_, d) => uptoBulk d + 1
 end
def uptoSmall : (H : Type) → List (DataW H) → Bool := fun _ ds => decide (uptoBulkAll ds ≤ 1048576)
def OpenSpec.upto (s : _root_.Go.ChangeSpec) : _root_.Go.OpenSpec := { _root_.Go.OpenSpec.ofChange s with cond := some uptoSmall }

/-- 'wayleavelaw.SpaceDoes', WHERE WHAT IT READS IS OF BULK AT MOST 1048576: true; the input reads as it did. -/
def spaceDoesUptoRow : OpenClaim := { program := "ytmfheghbgihdmaagreat", sum := "121cfd621fc0626e2e1e4b5d21b9cfeb3064e56b1f0aeb61a106ab0d08516f7b", func := "wayleave/wayleavelaw.SpaceDoes", spec := "spaceDoes", unfollowed := true, recurses := true, apart := false, narrowed := true }
def SpaceDoesUptoSaid : Prop := spaceDoesUptoRow.holds Tryz.pinned (OpenSpec.upto spaceDoesSpec)

/-- 'wayleavelaw.WatchTimes', WHERE WHAT IT READS IS OF BULK AT MOST 1048576: true; the input reads as it did. -/
def watchTimesUptoRow : OpenClaim := { program := "ytmfheghbgihdmaagreat", sum := "121cfd621fc0626e2e1e4b5d21b9cfeb3064e56b1f0aeb61a106ab0d08516f7b", func := "wayleave/wayleavelaw.WatchTimes", spec := "watchTimes", inPlace := ["slices.overlaps[wayleave/api.Map]"], unfollowed := true, recurses := true, apart := false, narrowed := true }
def WatchTimesUptoSaid : Prop := watchTimesUptoRow.holds Tryz.pinned (OpenSpec.upto watchTimesSpec)

/-- 'wayleavelaw.WatchNow', WHERE WHAT IT READS IS OF BULK AT MOST 1048576: true; the input reads as it did. -/
def watchNowUptoRow : OpenClaim := { program := "ytmfheghbgihdmaagreat", sum := "121cfd621fc0626e2e1e4b5d21b9cfeb3064e56b1f0aeb61a106ab0d08516f7b", func := "wayleave/wayleavelaw.WatchNow", spec := "watchNow", inPlace := ["slices.overlaps[wayleave/api.Map]"], unfollowed := true, recurses := true, apart := false, narrowed := true }
def WatchNowUptoSaid : Prop := watchNowUptoRow.holds Tryz.pinned (OpenSpec.upto watchNowSpec)

/-- 'wayleavelaw.WatchDoes', WHERE WHAT IT READS IS OF BULK AT MOST 1048576: true; the input reads as it did. -/
def watchDoesUptoRow : OpenClaim := { program := "ytmfheghbgihdmaagreat", sum := "121cfd621fc0626e2e1e4b5d21b9cfeb3064e56b1f0aeb61a106ab0d08516f7b", func := "wayleave/wayleavelaw.WatchDoes", spec := "watchDoes", inPlace := ["slices.overlaps[wayleave/api.Map]"], unfollowed := true, recurses := true, apart := false, narrowed := true }
def WatchDoesUptoSaid : Prop := watchDoesUptoRow.holds Tryz.pinned (OpenSpec.upto watchDoesSpec)

/-- 'wayleavelaw.TraceRuns', WHERE WHAT IT READS IS OF BULK AT MOST 1048576: true; the input reads as it did. -/
def traceRunsUptoRow : OpenClaim := { program := "ytmfheghbgihdmaagreat", sum := "121cfd621fc0626e2e1e4b5d21b9cfeb3064e56b1f0aeb61a106ab0d08516f7b", func := "wayleave/wayleavelaw.TraceRuns", spec := "traceRuns", inPlace := ["slices.overlaps[wayleave/api.Map]"], unfollowed := true, recurses := true, apart := false, narrowed := true }
def TraceRunsUptoSaid : Prop := traceRunsUptoRow.holds Tryz.pinned (OpenSpec.upto traceRunsSpec)

/-- 'wayleavelaw.TraceParts', WHERE WHAT IT READS IS OF BULK AT MOST 1048576: true; the input reads as it did. -/
def tracePartsUptoRow : OpenClaim := { program := "ytmfheghbgihdmaagreat", sum := "121cfd621fc0626e2e1e4b5d21b9cfeb3064e56b1f0aeb61a106ab0d08516f7b", func := "wayleave/wayleavelaw.TraceParts", spec := "traceParts", inPlace := ["slices.overlaps[wayleave/api.Map]"], unfollowed := true, recurses := true, apart := false, narrowed := true }
def TracePartsUptoSaid : Prop := tracePartsUptoRow.holds Tryz.pinned (OpenSpec.upto tracePartsSpec)

/-- 'wayleavelaw.WatchSame', WHERE WHAT IT READS IS OF BULK AT MOST 1048576: true; the input reads as it did. -/
def watchSameUptoRow : OpenClaim := { program := "ytmfheghbgihdmaagreat", sum := "121cfd621fc0626e2e1e4b5d21b9cfeb3064e56b1f0aeb61a106ab0d08516f7b", func := "wayleave/wayleavelaw.WatchSame", spec := "watchSame", inPlace := ["slices.overlaps[wayleave/api.Map]"], unfollowed := true, recurses := true, apart := false, narrowed := true }
def WatchSameUptoSaid : Prop := watchSameUptoRow.holds Tryz.pinned (OpenSpec.upto watchSameSpec)

/-- 'wayleavelaw.TraceCalms', WHERE WHAT IT READS IS OF BULK AT MOST 1048576: true; the input reads as it did. -/
def traceCalmsUptoRow : OpenClaim := { program := "ytmfheghbgihdmaagreat", sum := "121cfd621fc0626e2e1e4b5d21b9cfeb3064e56b1f0aeb61a106ab0d08516f7b", func := "wayleave/wayleavelaw.TraceCalms", spec := "traceCalms", inPlace := ["slices.overlaps[wayleave/api.Map]"], unfollowed := true, recurses := true, apart := false, narrowed := true }
def TraceCalmsUptoSaid : Prop := traceCalmsUptoRow.holds Tryz.pinned (OpenSpec.upto traceCalmsSpec)

end Rows
end Go.Proofs.YtmfheghbgihdmaaGreat
