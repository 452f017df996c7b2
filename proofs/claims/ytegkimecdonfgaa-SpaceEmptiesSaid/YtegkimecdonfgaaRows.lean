/-
  No cell of these rows narrows 'for every input' (looked for: loops, veiled, ifaces, maps, wideKeys, modest, calm, conditions, laid).
  DERIVED. THE GIVEN ROWS OF THIS SEAT. 8 by the template 'for every input the law returns true; each argument reads behind the call as it read before'; 0 by the template 'total and deterministic' (their statements: YtegkimecdonfgaaTotals.lean).
  GIVEN WITH THE SEED: the statements are not yours to turn. If you find one false, say at which input.
  Laid BY PROGRAM, IN A SANDBOX (cutbox-rows.mjs): the forced cells as the released guide's own fill.sh prints them over the translation 2d7715e38b8287e3… (all of the seat's roots in one cut). By AI agents, Wed Nov 11 2026. No macro, syntax, notation, axiom, sorry.
-/
import Derived.Test.YtegkimecdonfgaaChecked
import GoSem.Claim
import GoSem.ClaimJoined
import GoSem.ClaimMapViews
import Derived.JoinedTies
import Derived.KernelRfl
namespace Go.Proofs.Ytegkimecdonfgaa
/- THE CELL 'sum', in the pinned program and in every row, IS THE sha256 OF THE DUMP (.gsa) THAT YtegkimecdonfgaaProg.lean LOADS. Nothing in Lean hashes anything: it is a label: what it is worth is what the hold of that sum in a sandbox is worth. -/
noncomputable def Try.pinned : Pinned := { name := "ytegkimecdonfgaa", sum := "2d7715e38b8287e30f5a19e9aa851a3cbcdcf5e53e6718611179ea97f03368af", checked := Try.checked }
namespace Rows
def none {H : Type} : Left H := { results := [], args := [] }

/-- 'wayleavelaw.TableStays': WHATEVER THE INPUT: true; the input reads as it did. -/
def tableStaysSpec : ChangeSpec := { name := "tableStays", fn := fun _ => fun
  | [d1, d2, d3] => { results := [.lit (.bool true)], args := [d1, d2, d3] }
  | _ => none }
def tableStaysRow : OpenClaim := { program := "ytegkimecdonfgaa", sum := "2d7715e38b8287e30f5a19e9aa851a3cbcdcf5e53e6718611179ea97f03368af", func := "wayleave/wayleavelaw.TableStays", spec := "tableStays", unfollowed := true, recurses := true, apart := false }
def TableStaysSaid : Prop := tableStaysRow.holds Try.pinned (OpenSpec.ofChange tableStaysSpec)

/-- ITS FALSE NEIGHBOUR: 'it returns false'. Refute it at one input. -/
def tableStaysWrong : ChangeSpec := { name := "tableStays", fn := fun _ => fun
  | [d1, d2, d3] => { results := [.lit (.bool false)], args := [d1, d2, d3] }
  | _ => none }
def TableStaysWrongFalsely : Prop := tableStaysRow.holds Try.pinned (OpenSpec.ofChange tableStaysWrong)

/-- 'wayleavelaw.TableDoes': WHATEVER THE INPUT: true; the input reads as it did. -/
def tableDoesSpec : ChangeSpec := { name := "tableDoes", fn := fun _ => fun
  | [d1, d2, d3, d4] => { results := [.lit (.bool true)], args := [d1, d2, d3, d4] }
  | _ => none }
def tableDoesRow : OpenClaim := { program := "ytegkimecdonfgaa", sum := "2d7715e38b8287e30f5a19e9aa851a3cbcdcf5e53e6718611179ea97f03368af", func := "wayleave/wayleavelaw.TableDoes", spec := "tableDoes", unfollowed := true, recurses := true, apart := false }
def TableDoesSaid : Prop := tableDoesRow.holds Try.pinned (OpenSpec.ofChange tableDoesSpec)

/-- ITS FALSE NEIGHBOUR: 'it returns false'. Refute it at one input. -/
def tableDoesWrong : ChangeSpec := { name := "tableDoes", fn := fun _ => fun
  | [d1, d2, d3, d4] => { results := [.lit (.bool false)], args := [d1, d2, d3, d4] }
  | _ => none }
def TableDoesWrongFalsely : Prop := tableDoesRow.holds Try.pinned (OpenSpec.ofChange tableDoesWrong)

/-- 'wayleavelaw.TableKeeps': WHATEVER THE INPUT: true; the input reads as it did. -/
def tableKeepsSpec : ChangeSpec := { name := "tableKeeps", fn := fun _ => fun
  | [d1, d2, d3] => { results := [.lit (.bool true)], args := [d1, d2, d3] }
  | _ => none }
def tableKeepsRow : OpenClaim := { program := "ytegkimecdonfgaa", sum := "2d7715e38b8287e30f5a19e9aa851a3cbcdcf5e53e6718611179ea97f03368af", func := "wayleave/wayleavelaw.TableKeeps", spec := "tableKeeps", unfollowed := true, recurses := true, apart := false }
def TableKeepsSaid : Prop := tableKeepsRow.holds Try.pinned (OpenSpec.ofChange tableKeepsSpec)

/-- ITS FALSE NEIGHBOUR: 'it returns false'. Refute it at one input. -/
def tableKeepsWrong : ChangeSpec := { name := "tableKeeps", fn := fun _ => fun
  | [d1, d2, d3] => { results := [.lit (.bool false)], args := [d1, d2, d3] }
  | _ => none }
def TableKeepsWrongFalsely : Prop := tableKeepsRow.holds Try.pinned (OpenSpec.ofChange tableKeepsWrong)

/-- 'wayleavelaw.TableBook': WHATEVER THE INPUT: true; the input reads as it did. -/
def tableBookSpec : ChangeSpec := { name := "tableBook", fn := fun _ => fun
  | [d1, d2] => { results := [.lit (.bool true)], args := [d1, d2] }
  | _ => none }
def tableBookRow : OpenClaim := { program := "ytegkimecdonfgaa", sum := "2d7715e38b8287e30f5a19e9aa851a3cbcdcf5e53e6718611179ea97f03368af", func := "wayleave/wayleavelaw.TableBook", spec := "tableBook", inPlace := ["slices.overlaps[wayleave/api.Map]"], unfollowed := true, recurses := true, apart := false }
def TableBookSaid : Prop := tableBookRow.holds Try.pinned (OpenSpec.ofChange tableBookSpec)

/-- ITS FALSE NEIGHBOUR: 'it returns false'. Refute it at one input. -/
def tableBookWrong : ChangeSpec := { name := "tableBook", fn := fun _ => fun
  | [d1, d2] => { results := [.lit (.bool false)], args := [d1, d2] }
  | _ => none }
def TableBookWrongFalsely : Prop := tableBookRow.holds Try.pinned (OpenSpec.ofChange tableBookWrong)

/-- 'wayleavelaw.SpaceAlone': WHATEVER THE INPUT: true; the input reads as it did. -/
def spaceAloneSpec : ChangeSpec := { name := "spaceAlone", fn := fun _ => fun
  | [d1, d2] => { results := [.lit (.bool true)], args := [d1, d2] }
  | _ => none }
def spaceAloneRow : OpenClaim := { program := "ytegkimecdonfgaa", sum := "2d7715e38b8287e30f5a19e9aa851a3cbcdcf5e53e6718611179ea97f03368af", func := "wayleave/wayleavelaw.SpaceAlone", spec := "spaceAlone", unfollowed := true, recurses := true, apart := false }
def SpaceAloneSaid : Prop := spaceAloneRow.holds Try.pinned (OpenSpec.ofChange spaceAloneSpec)

/-- ITS FALSE NEIGHBOUR: 'it returns false'. Refute it at one input. -/
def spaceAloneWrong : ChangeSpec := { name := "spaceAlone", fn := fun _ => fun
  | [d1, d2] => { results := [.lit (.bool false)], args := [d1, d2] }
  | _ => none }
def SpaceAloneWrongFalsely : Prop := spaceAloneRow.holds Try.pinned (OpenSpec.ofChange spaceAloneWrong)

/-- 'wayleavelaw.SpaceSafe': WHATEVER THE INPUT: true; the input reads as it did. -/
def spaceSafeSpec : ChangeSpec := { name := "spaceSafe", fn := fun _ => fun
  | [d1, d2, d3] => { results := [.lit (.bool true)], args := [d1, d2, d3] }
  | _ => none }
def spaceSafeRow : OpenClaim := { program := "ytegkimecdonfgaa", sum := "2d7715e38b8287e30f5a19e9aa851a3cbcdcf5e53e6718611179ea97f03368af", func := "wayleave/wayleavelaw.SpaceSafe", spec := "spaceSafe", unfollowed := true, recurses := true, apart := false }
def SpaceSafeSaid : Prop := spaceSafeRow.holds Try.pinned (OpenSpec.ofChange spaceSafeSpec)

/-- ITS FALSE NEIGHBOUR: 'it returns false'. Refute it at one input. -/
def spaceSafeWrong : ChangeSpec := { name := "spaceSafe", fn := fun _ => fun
  | [d1, d2, d3] => { results := [.lit (.bool false)], args := [d1, d2, d3] }
  | _ => none }
def SpaceSafeWrongFalsely : Prop := spaceSafeRow.holds Try.pinned (OpenSpec.ofChange spaceSafeWrong)

/-- 'wayleavelaw.SpaceDirty': WHATEVER THE INPUT: true; the input reads as it did. -/
def spaceDirtySpec : ChangeSpec := { name := "spaceDirty", fn := fun _ => fun
  | [d1, d2, d3] => { results := [.lit (.bool true)], args := [d1, d2, d3] }
  | _ => none }
def spaceDirtyRow : OpenClaim := { program := "ytegkimecdonfgaa", sum := "2d7715e38b8287e30f5a19e9aa851a3cbcdcf5e53e6718611179ea97f03368af", func := "wayleave/wayleavelaw.SpaceDirty", spec := "spaceDirty", unfollowed := true, recurses := true, apart := false }
def SpaceDirtySaid : Prop := spaceDirtyRow.holds Try.pinned (OpenSpec.ofChange spaceDirtySpec)

/-- ITS FALSE NEIGHBOUR: 'it returns false'. Refute it at one input. -/
def spaceDirtyWrong : ChangeSpec := { name := "spaceDirty", fn := fun _ => fun
  | [d1, d2, d3] => { results := [.lit (.bool false)], args := [d1, d2, d3] }
  | _ => none }
def SpaceDirtyWrongFalsely : Prop := spaceDirtyRow.holds Try.pinned (OpenSpec.ofChange spaceDirtyWrong)

/-- 'wayleavelaw.SpaceEmpties': WHATEVER THE INPUT: true; the input reads as it did. -/
def spaceEmptiesSpec : ChangeSpec := { name := "spaceEmpties", fn := fun _ => fun
  | [d1, d2, d3] => { results := [.lit (.bool true)], args := [d1, d2, d3] }
  | _ => none }
def spaceEmptiesRow : OpenClaim := { program := "ytegkimecdonfgaa", sum := "2d7715e38b8287e30f5a19e9aa851a3cbcdcf5e53e6718611179ea97f03368af", func := "wayleave/wayleavelaw.SpaceEmpties", spec := "spaceEmpties", unfollowed := true, recurses := true, apart := false }
def SpaceEmptiesSaid : Prop := spaceEmptiesRow.holds Try.pinned (OpenSpec.ofChange spaceEmptiesSpec)

/-- ITS FALSE NEIGHBOUR: 'it returns false'. Refute it at one input. -/
def spaceEmptiesWrong : ChangeSpec := { name := "spaceEmpties", fn := fun _ => fun
  | [d1, d2, d3] => { results := [.lit (.bool false)], args := [d1, d2, d3] }
  | _ => none }
def SpaceEmptiesWrongFalsely : Prop := spaceEmptiesRow.holds Try.pinned (OpenSpec.ofChange spaceEmptiesWrong)

/- THE SECOND FORM. 'bulk': how many values and letters a reading holds, each counted each time it is reached (what is shared counts as often as it is met; a slice's spare places count too). A statement '..UptoSaid' is the law's where the arguments, and the package variables that the reading takes, are together of bulk at most 1048576: NARROWER than '..Said'. Prove '..Said' where nothing that the law and all that it calls make is longer than what came in: it says more and counts as full. Else prove '..UptoSaid'. A law counts once. -/
mutual
def uptoBulk {H : Type} : DataW H → Nat
  | .lit (.string bytes) => bytes.length + 1
  | .lit _ => 1
  | .nil => 1
  | .ptr d => uptoBulk d + 1
  | .slice elems spare => uptoBulkAll elems + uptoBulkAll spare + 1
  | .agg parts => uptoBulkAll parts + 1
  | .iface _ d => uptoBulk d + 1
  | .map entries => uptoBulkEntries entries + 1
  | .held _ => 1
def uptoBulkAll {H : Type} : List (DataW H) → Nat
  | [] => 0
  | d :: r => uptoBulk d + uptoBulkAll r
def uptoBulkEntries {H : Type} : List (Lit × DataW H) → Nat
  | [] => 0
  | x :: r => uptoBulkEntry x + uptoBulkEntries r
def uptoBulkEntry {H : Type} : Lit × DataW H → Nat
  | (.string bytes, d) => bytes.length + uptoBulk d + 1
  | (_, d) => uptoBulk d + 1
 end
def uptoSmall : (H : Type) → List (DataW H) → Bool := fun _ ds => decide (uptoBulkAll ds ≤ 1048576)
def OpenSpec.upto (s : _root_.Go.ChangeSpec) : _root_.Go.OpenSpec := { _root_.Go.OpenSpec.ofChange s with cond := some uptoSmall }

/-- 'wayleavelaw.TableStays', WHERE WHAT IT READS IS OF BULK AT MOST 1048576: true; the input reads as it did. -/
def tableStaysUptoRow : OpenClaim := { program := "ytegkimecdonfgaa", sum := "2d7715e38b8287e30f5a19e9aa851a3cbcdcf5e53e6718611179ea97f03368af", func := "wayleave/wayleavelaw.TableStays", spec := "tableStays", unfollowed := true, recurses := true, apart := false, narrowed := true }
def TableStaysUptoSaid : Prop := tableStaysUptoRow.holds Try.pinned (OpenSpec.upto tableStaysSpec)

/-- 'wayleavelaw.TableDoes', WHERE WHAT IT READS IS OF BULK AT MOST 1048576: true; the input reads as it did. -/
def tableDoesUptoRow : OpenClaim := { program := "ytegkimecdonfgaa", sum := "2d7715e38b8287e30f5a19e9aa851a3cbcdcf5e53e6718611179ea97f03368af", func := "wayleave/wayleavelaw.TableDoes", spec := "tableDoes", unfollowed := true, recurses := true, apart := false, narrowed := true }
def TableDoesUptoSaid : Prop := tableDoesUptoRow.holds Try.pinned (OpenSpec.upto tableDoesSpec)

/-- 'wayleavelaw.TableKeeps', WHERE WHAT IT READS IS OF BULK AT MOST 1048576: true; the input reads as it did. -/
def tableKeepsUptoRow : OpenClaim := { program := "ytegkimecdonfgaa", sum := "2d7715e38b8287e30f5a19e9aa851a3cbcdcf5e53e6718611179ea97f03368af", func := "wayleave/wayleavelaw.TableKeeps", spec := "tableKeeps", unfollowed := true, recurses := true, apart := false, narrowed := true }
def TableKeepsUptoSaid : Prop := tableKeepsUptoRow.holds Try.pinned (OpenSpec.upto tableKeepsSpec)

/-- 'wayleavelaw.TableBook', WHERE WHAT IT READS IS OF BULK AT MOST 1048576: true; the input reads as it did. -/
def tableBookUptoRow : OpenClaim := { program := "ytegkimecdonfgaa", sum := "2d7715e38b8287e30f5a19e9aa851a3cbcdcf5e53e6718611179ea97f03368af", func := "wayleave/wayleavelaw.TableBook", spec := "tableBook", inPlace := ["slices.overlaps[wayleave/api.Map]"], unfollowed := true, recurses := true, apart := false, narrowed := true }
def TableBookUptoSaid : Prop := tableBookUptoRow.holds Try.pinned (OpenSpec.upto tableBookSpec)

/-- 'wayleavelaw.SpaceAlone', WHERE WHAT IT READS IS OF BULK AT MOST 1048576: true; the input reads as it did. -/
def spaceAloneUptoRow : OpenClaim := { program := "ytegkimecdonfgaa", sum := "2d7715e38b8287e30f5a19e9aa851a3cbcdcf5e53e6718611179ea97f03368af", func := "wayleave/wayleavelaw.SpaceAlone", spec := "spaceAlone", unfollowed := true, recurses := true, apart := false, narrowed := true }
def SpaceAloneUptoSaid : Prop := spaceAloneUptoRow.holds Try.pinned (OpenSpec.upto spaceAloneSpec)

/-- 'wayleavelaw.SpaceSafe', WHERE WHAT IT READS IS OF BULK AT MOST 1048576: true; the input reads as it did. -/
def spaceSafeUptoRow : OpenClaim := { program := "ytegkimecdonfgaa", sum := "2d7715e38b8287e30f5a19e9aa851a3cbcdcf5e53e6718611179ea97f03368af", func := "wayleave/wayleavelaw.SpaceSafe", spec := "spaceSafe", unfollowed := true, recurses := true, apart := false, narrowed := true }
def SpaceSafeUptoSaid : Prop := spaceSafeUptoRow.holds Try.pinned (OpenSpec.upto spaceSafeSpec)

/-- 'wayleavelaw.SpaceDirty', WHERE WHAT IT READS IS OF BULK AT MOST 1048576: true; the input reads as it did. -/
def spaceDirtyUptoRow : OpenClaim := { program := "ytegkimecdonfgaa", sum := "2d7715e38b8287e30f5a19e9aa851a3cbcdcf5e53e6718611179ea97f03368af", func := "wayleave/wayleavelaw.SpaceDirty", spec := "spaceDirty", unfollowed := true, recurses := true, apart := false, narrowed := true }
def SpaceDirtyUptoSaid : Prop := spaceDirtyUptoRow.holds Try.pinned (OpenSpec.upto spaceDirtySpec)

/-- 'wayleavelaw.SpaceEmpties', WHERE WHAT IT READS IS OF BULK AT MOST 1048576: true; the input reads as it did. -/
def spaceEmptiesUptoRow : OpenClaim := { program := "ytegkimecdonfgaa", sum := "2d7715e38b8287e30f5a19e9aa851a3cbcdcf5e53e6718611179ea97f03368af", func := "wayleave/wayleavelaw.SpaceEmpties", spec := "spaceEmpties", unfollowed := true, recurses := true, apart := false, narrowed := true }
def SpaceEmptiesUptoSaid : Prop := spaceEmptiesUptoRow.holds Try.pinned (OpenSpec.upto spaceEmptiesSpec)

end Rows
end Go.Proofs.Ytegkimecdonfgaa
