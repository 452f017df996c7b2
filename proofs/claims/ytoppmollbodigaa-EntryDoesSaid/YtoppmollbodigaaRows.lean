/-
  No cell of these rows narrows 'for every input' (looked for: loops, veiled, ifaces, maps, wideKeys, modest, calm, conditions, laid).
  DERIVED. THE GIVEN ROWS OF THIS SEAT. 10 by the template 'for every input the law returns true; each argument reads behind the call as it read before'; 0 by the template 'total and deterministic' (their statements: YtoppmollbodigaaTotals.lean).
  GIVEN WITH THE SEED: the statements are not yours to turn. If you find one false, say at which input.
  Laid BY PROGRAM, IN A SANDBOX (cutbox-rows.mjs): the forced cells as the released guide's own fill.sh prints them over the translation 35054b8d23eca781… (all of the seat's roots in one cut). By AI agents, Wed Nov 11 2026. No macro, syntax, notation, axiom, sorry.
-/
import Derived.Test.YtoppmollbodigaaChecked
import GoSem.Claim
import GoSem.ClaimJoined
import GoSem.ClaimMapViews
import Derived.JoinedTies
import Derived.KernelRfl
namespace Go.Proofs.Ytoppmollbodigaa
/- THE CELL 'sum', in the pinned program and in every row, IS THE sha256 OF THE DUMP (.gsa) THAT YtoppmollbodigaaProg.lean LOADS. Nothing in Lean hashes anything: it is a label: what it is worth is what the hold of that sum in a sandbox is worth. -/
noncomputable def Try.pinned : Pinned := { name := "ytoppmollbodigaa", sum := "35054b8d23eca7814025f0ddfb24f31c33145eb6ff38ff491c97358d244c83c4", checked := Try.checked }
namespace Rows
def none {H : Type} : Left H := { results := [], args := [] }

/-- 'wayleavelaw.ShootDoes': WHATEVER THE INPUT: true; the input reads as it did. -/
def shootDoesSpec : ChangeSpec := { name := "shootDoes", fn := fun _ => fun
  | [d] => { results := [.lit (.bool true)], args := [d] }
  | _ => none }
def shootDoesRow : OpenClaim := { program := "ytoppmollbodigaa", sum := "35054b8d23eca7814025f0ddfb24f31c33145eb6ff38ff491c97358d244c83c4", func := "wayleave/wayleavelaw.ShootDoes", spec := "shootDoes", apart := false }
def ShootDoesSaid : Prop := shootDoesRow.holds Try.pinned (OpenSpec.ofChange shootDoesSpec)

/-- ITS FALSE NEIGHBOUR: 'it returns false'. Refute it at one input. -/
def shootDoesWrong : ChangeSpec := { name := "shootDoes", fn := fun _ => fun
  | [d] => { results := [.lit (.bool false)], args := [d] }
  | _ => none }
def ShootDoesWrongFalsely : Prop := shootDoesRow.holds Try.pinned (OpenSpec.ofChange shootDoesWrong)

/-- 'wayleavelaw.PageWays': WHATEVER THE INPUT: true; the input reads as it did. -/
def pageWaysSpec : ChangeSpec := { name := "pageWays", fn := fun _ => fun
  | [d1, d2, d3] => { results := [.lit (.bool true)], args := [d1, d2, d3] }
  | _ => none }
def pageWaysRow : OpenClaim := { program := "ytoppmollbodigaa", sum := "35054b8d23eca7814025f0ddfb24f31c33145eb6ff38ff491c97358d244c83c4", func := "wayleave/wayleavelaw.PageWays", spec := "pageWays", apart := false }
def PageWaysSaid : Prop := pageWaysRow.holds Try.pinned (OpenSpec.ofChange pageWaysSpec)

/-- ITS FALSE NEIGHBOUR: 'it returns false'. Refute it at one input. -/
def pageWaysWrong : ChangeSpec := { name := "pageWays", fn := fun _ => fun
  | [d1, d2, d3] => { results := [.lit (.bool false)], args := [d1, d2, d3] }
  | _ => none }
def PageWaysWrongFalsely : Prop := pageWaysRow.holds Try.pinned (OpenSpec.ofChange pageWaysWrong)

/-- 'wayleavelaw.PageRights': WHATEVER THE INPUT: true; the input reads as it did. -/
def pageRightsSpec : ChangeSpec := { name := "pageRights", fn := fun _ => fun
  | [d1, d2, d3, d4] => { results := [.lit (.bool true)], args := [d1, d2, d3, d4] }
  | _ => none }
def pageRightsRow : OpenClaim := { program := "ytoppmollbodigaa", sum := "35054b8d23eca7814025f0ddfb24f31c33145eb6ff38ff491c97358d244c83c4", func := "wayleave/wayleavelaw.PageRights", spec := "pageRights", apart := false }
def PageRightsSaid : Prop := pageRightsRow.holds Try.pinned (OpenSpec.ofChange pageRightsSpec)

/-- ITS FALSE NEIGHBOUR: 'it returns false'. Refute it at one input. -/
def pageRightsWrong : ChangeSpec := { name := "pageRights", fn := fun _ => fun
  | [d1, d2, d3, d4] => { results := [.lit (.bool false)], args := [d1, d2, d3, d4] }
  | _ => none }
def PageRightsWrongFalsely : Prop := pageRightsRow.holds Try.pinned (OpenSpec.ofChange pageRightsWrong)

/-- 'wayleavelaw.PageMeets': WHATEVER THE INPUT: true; the input reads as it did. -/
def pageMeetsSpec : ChangeSpec := { name := "pageMeets", fn := fun _ => fun
  | [d1, d2] => { results := [.lit (.bool true)], args := [d1, d2] }
  | _ => none }
def pageMeetsRow : OpenClaim := { program := "ytoppmollbodigaa", sum := "35054b8d23eca7814025f0ddfb24f31c33145eb6ff38ff491c97358d244c83c4", func := "wayleave/wayleavelaw.PageMeets", spec := "pageMeets", apart := false }
def PageMeetsSaid : Prop := pageMeetsRow.holds Try.pinned (OpenSpec.ofChange pageMeetsSpec)

/-- ITS FALSE NEIGHBOUR: 'it returns false'. Refute it at one input. -/
def pageMeetsWrong : ChangeSpec := { name := "pageMeets", fn := fun _ => fun
  | [d1, d2] => { results := [.lit (.bool false)], args := [d1, d2] }
  | _ => none }
def PageMeetsWrongFalsely : Prop := pageMeetsRow.holds Try.pinned (OpenSpec.ofChange pageMeetsWrong)

/-- 'wayleavelaw.FramesDoes': WHATEVER THE INPUT: true; the input reads as it did. -/
def framesDoesSpec : ChangeSpec := { name := "framesDoes", fn := fun _ => fun
  | [d1, d2] => { results := [.lit (.bool true)], args := [d1, d2] }
  | _ => none }
def framesDoesRow : OpenClaim := { program := "ytoppmollbodigaa", sum := "35054b8d23eca7814025f0ddfb24f31c33145eb6ff38ff491c97358d244c83c4", func := "wayleave/wayleavelaw.FramesDoes", spec := "framesDoes", apart := false }
def FramesDoesSaid : Prop := framesDoesRow.holds Try.pinned (OpenSpec.ofChange framesDoesSpec)

/-- ITS FALSE NEIGHBOUR: 'it returns false'. Refute it at one input. -/
def framesDoesWrong : ChangeSpec := { name := "framesDoes", fn := fun _ => fun
  | [d1, d2] => { results := [.lit (.bool false)], args := [d1, d2] }
  | _ => none }
def FramesDoesWrongFalsely : Prop := framesDoesRow.holds Try.pinned (OpenSpec.ofChange framesDoesWrong)

/-- 'wayleavelaw.FramesOnce': WHATEVER THE INPUT: true; the input reads as it did. -/
def framesOnceSpec : ChangeSpec := { name := "framesOnce", fn := fun _ => fun
  | [d1, d2] => { results := [.lit (.bool true)], args := [d1, d2] }
  | _ => none }
def framesOnceRow : OpenClaim := { program := "ytoppmollbodigaa", sum := "35054b8d23eca7814025f0ddfb24f31c33145eb6ff38ff491c97358d244c83c4", func := "wayleave/wayleavelaw.FramesOnce", spec := "framesOnce", apart := false }
def FramesOnceSaid : Prop := framesOnceRow.holds Try.pinned (OpenSpec.ofChange framesOnceSpec)

/-- ITS FALSE NEIGHBOUR: 'it returns false'. Refute it at one input. -/
def framesOnceWrong : ChangeSpec := { name := "framesOnce", fn := fun _ => fun
  | [d1, d2] => { results := [.lit (.bool false)], args := [d1, d2] }
  | _ => none }
def FramesOnceWrongFalsely : Prop := framesOnceRow.holds Try.pinned (OpenSpec.ofChange framesOnceWrong)

/-- 'wayleavelaw.PageDoes': WHATEVER THE INPUT: true; the input reads as it did. -/
def pageDoesSpec : ChangeSpec := { name := "pageDoes", fn := fun _ => fun
  | [d1, d2, d3, d4, d5, d6] => { results := [.lit (.bool true)], args := [d1, d2, d3, d4, d5, d6] }
  | _ => none }
def pageDoesRow : OpenClaim := { program := "ytoppmollbodigaa", sum := "35054b8d23eca7814025f0ddfb24f31c33145eb6ff38ff491c97358d244c83c4", func := "wayleave/wayleavelaw.PageDoes", spec := "pageDoes", apart := false }
def PageDoesSaid : Prop := pageDoesRow.holds Try.pinned (OpenSpec.ofChange pageDoesSpec)

/-- ITS FALSE NEIGHBOUR: 'it returns false'. Refute it at one input. -/
def pageDoesWrong : ChangeSpec := { name := "pageDoes", fn := fun _ => fun
  | [d1, d2, d3, d4, d5, d6] => { results := [.lit (.bool false)], args := [d1, d2, d3, d4, d5, d6] }
  | _ => none }
def PageDoesWrongFalsely : Prop := pageDoesRow.holds Try.pinned (OpenSpec.ofChange pageDoesWrong)

/-- 'wayleavelaw.EntryBack': WHATEVER THE INPUT: true; the input reads as it did. -/
def entryBackSpec : ChangeSpec := { name := "entryBack", fn := fun _ => fun
  | [d1, d2, d3] => { results := [.lit (.bool true)], args := [d1, d2, d3] }
  | _ => none }
def entryBackRow : OpenClaim := { program := "ytoppmollbodigaa", sum := "35054b8d23eca7814025f0ddfb24f31c33145eb6ff38ff491c97358d244c83c4", func := "wayleave/wayleavelaw.EntryBack", spec := "entryBack", unfollowed := true, recurses := true, apart := false }
def EntryBackSaid : Prop := entryBackRow.holds Try.pinned (OpenSpec.ofChange entryBackSpec)

/-- ITS FALSE NEIGHBOUR: 'it returns false'. Refute it at one input. -/
def entryBackWrong : ChangeSpec := { name := "entryBack", fn := fun _ => fun
  | [d1, d2, d3] => { results := [.lit (.bool false)], args := [d1, d2, d3] }
  | _ => none }
def EntryBackWrongFalsely : Prop := entryBackRow.holds Try.pinned (OpenSpec.ofChange entryBackWrong)

/-- 'wayleavelaw.EntryMarks': WHATEVER THE INPUT: true; the input reads as it did. -/
def entryMarksSpec : ChangeSpec := { name := "entryMarks", fn := fun _ => fun
  | [d1, d2, d3, d4, d5] => { results := [.lit (.bool true)], args := [d1, d2, d3, d4, d5] }
  | _ => none }
def entryMarksRow : OpenClaim := { program := "ytoppmollbodigaa", sum := "35054b8d23eca7814025f0ddfb24f31c33145eb6ff38ff491c97358d244c83c4", func := "wayleave/wayleavelaw.EntryMarks", spec := "entryMarks", unfollowed := true, recurses := true, apart := false }
def EntryMarksSaid : Prop := entryMarksRow.holds Try.pinned (OpenSpec.ofChange entryMarksSpec)

/-- ITS FALSE NEIGHBOUR: 'it returns false'. Refute it at one input. -/
def entryMarksWrong : ChangeSpec := { name := "entryMarks", fn := fun _ => fun
  | [d1, d2, d3, d4, d5] => { results := [.lit (.bool false)], args := [d1, d2, d3, d4, d5] }
  | _ => none }
def EntryMarksWrongFalsely : Prop := entryMarksRow.holds Try.pinned (OpenSpec.ofChange entryMarksWrong)

/-- 'wayleavelaw.EntryDoes': WHATEVER THE INPUT: true; the input reads as it did. -/
def entryDoesSpec : ChangeSpec := { name := "entryDoes", fn := fun _ => fun
  | [d1, d2, d3, d4] => { results := [.lit (.bool true)], args := [d1, d2, d3, d4] }
  | _ => none }
def entryDoesRow : OpenClaim := { program := "ytoppmollbodigaa", sum := "35054b8d23eca7814025f0ddfb24f31c33145eb6ff38ff491c97358d244c83c4", func := "wayleave/wayleavelaw.EntryDoes", spec := "entryDoes", unfollowed := true, recurses := true, apart := false }
def EntryDoesSaid : Prop := entryDoesRow.holds Try.pinned (OpenSpec.ofChange entryDoesSpec)

/-- ITS FALSE NEIGHBOUR: 'it returns false'. Refute it at one input. -/
def entryDoesWrong : ChangeSpec := { name := "entryDoes", fn := fun _ => fun
  | [d1, d2, d3, d4] => { results := [.lit (.bool false)], args := [d1, d2, d3, d4] }
  | _ => none }
def EntryDoesWrongFalsely : Prop := entryDoesRow.holds Try.pinned (OpenSpec.ofChange entryDoesWrong)

/- THE SECOND FORM. 'bulk': how many values and letters a reading holds, each counted each time it is reached (what is shared counts as often as it is met; a slice's spare places count too). A statement '..UptoSaid' is the law's where the arguments, and the package variables that the reading takes, are together of bulk at most 1048576: NARROWER than '..Said'. Prove '..Said' where nothing that the law and all that it calls make is longer than what came in: it says more and counts as full. Else prove '..UptoSaid'. A law counts once. -/
mutual
def uptoBulk {H : Type} : DataW H → Nat
  | .lit (.string bytes) => bytes.length + 1
  | .lit _ => 1
  | .nil => 1
  | .ptr d => uptoBulk d + 1
  | .slice elems spare => uptoBulkAll elems + uptoBulkAll spare + 1
  | .agg parts => uptoBulkAll parts + 1
  | .iface _ d => uptoBulk d + 1
  | .map entries => uptoBulkEntries entries + 1
  | .held _ => 1
def uptoBulkAll {H : Type} : List (DataW H) → Nat
  | [] => 0
  | d :: r => uptoBulk d + uptoBulkAll r
def uptoBulkEntries {H : Type} : List (Lit × DataW H) → Nat
  | [] => 0
  | x :: r => uptoBulkEntry x + uptoBulkEntries r
def uptoBulkEntry {H : Type} : Lit × DataW H → Nat
  | (.string bytes, d) => bytes.length + uptoBulk d + 1
  | (_, d) => uptoBulk d + 1
 end
def uptoSmall : (H : Type) → List (DataW H) → Bool := fun _ ds => decide (uptoBulkAll ds ≤ 1048576)
def OpenSpec.upto (s : _root_.Go.ChangeSpec) : _root_.Go.OpenSpec := { _root_.Go.OpenSpec.ofChange s with cond := some uptoSmall }

/-- 'wayleavelaw.ShootDoes', WHERE WHAT IT READS IS OF BULK AT MOST 1048576: true; the input reads as it did. -/
def shootDoesUptoRow : OpenClaim := { program := "ytoppmollbodigaa", sum := "35054b8d23eca7814025f0ddfb24f31c33145eb6ff38ff491c97358d244c83c4", func := "wayleave/wayleavelaw.ShootDoes", spec := "shootDoes", apart := false, narrowed := true }
def ShootDoesUptoSaid : Prop := shootDoesUptoRow.holds Try.pinned (OpenSpec.upto shootDoesSpec)

/-- 'wayleavelaw.PageWays', WHERE WHAT IT READS IS OF BULK AT MOST 1048576: true; the input reads as it did. -/
def pageWaysUptoRow : OpenClaim := { program := "ytoppmollbodigaa", sum := "35054b8d23eca7814025f0ddfb24f31c33145eb6ff38ff491c97358d244c83c4", func := "wayleave/wayleavelaw.PageWays", spec := "pageWays", apart := false, narrowed := true }
def PageWaysUptoSaid : Prop := pageWaysUptoRow.holds Try.pinned (OpenSpec.upto pageWaysSpec)

/-- 'wayleavelaw.PageRights', WHERE WHAT IT READS IS OF BULK AT MOST 1048576: true; the input reads as it did. -/
def pageRightsUptoRow : OpenClaim := { program := "ytoppmollbodigaa", sum := "35054b8d23eca7814025f0ddfb24f31c33145eb6ff38ff491c97358d244c83c4", func := "wayleave/wayleavelaw.PageRights", spec := "pageRights", apart := false, narrowed := true }
def PageRightsUptoSaid : Prop := pageRightsUptoRow.holds Try.pinned (OpenSpec.upto pageRightsSpec)

/-- 'wayleavelaw.PageMeets', WHERE WHAT IT READS IS OF BULK AT MOST 1048576: true; the input reads as it did. -/
def pageMeetsUptoRow : OpenClaim := { program := "ytoppmollbodigaa", sum := "35054b8d23eca7814025f0ddfb24f31c33145eb6ff38ff491c97358d244c83c4", func := "wayleave/wayleavelaw.PageMeets", spec := "pageMeets", apart := false, narrowed := true }
def PageMeetsUptoSaid : Prop := pageMeetsUptoRow.holds Try.pinned (OpenSpec.upto pageMeetsSpec)

/-- 'wayleavelaw.FramesDoes', WHERE WHAT IT READS IS OF BULK AT MOST 1048576: true; the input reads as it did. -/
def framesDoesUptoRow : OpenClaim := { program := "ytoppmollbodigaa", sum := "35054b8d23eca7814025f0ddfb24f31c33145eb6ff38ff491c97358d244c83c4", func := "wayleave/wayleavelaw.FramesDoes", spec := "framesDoes", apart := false, narrowed := true }
def FramesDoesUptoSaid : Prop := framesDoesUptoRow.holds Try.pinned (OpenSpec.upto framesDoesSpec)

/-- 'wayleavelaw.FramesOnce', WHERE WHAT IT READS IS OF BULK AT MOST 1048576: true; the input reads as it did. -/
def framesOnceUptoRow : OpenClaim := { program := "ytoppmollbodigaa", sum := "35054b8d23eca7814025f0ddfb24f31c33145eb6ff38ff491c97358d244c83c4", func := "wayleave/wayleavelaw.FramesOnce", spec := "framesOnce", apart := false, narrowed := true }
def FramesOnceUptoSaid : Prop := framesOnceUptoRow.holds Try.pinned (OpenSpec.upto framesOnceSpec)

/-- 'wayleavelaw.PageDoes', WHERE WHAT IT READS IS OF BULK AT MOST 1048576: true; the input reads as it did. -/
def pageDoesUptoRow : OpenClaim := { program := "ytoppmollbodigaa", sum := "35054b8d23eca7814025f0ddfb24f31c33145eb6ff38ff491c97358d244c83c4", func := "wayleave/wayleavelaw.PageDoes", spec := "pageDoes", apart := false, narrowed := true }
def PageDoesUptoSaid : Prop := pageDoesUptoRow.holds Try.pinned (OpenSpec.upto pageDoesSpec)

/-- 'wayleavelaw.EntryBack', WHERE WHAT IT READS IS OF BULK AT MOST 1048576: true; the input reads as it did. -/
def entryBackUptoRow : OpenClaim := { program := "ytoppmollbodigaa", sum := "35054b8d23eca7814025f0ddfb24f31c33145eb6ff38ff491c97358d244c83c4", func := "wayleave/wayleavelaw.EntryBack", spec := "entryBack", unfollowed := true, recurses := true, apart := false, narrowed := true }
def EntryBackUptoSaid : Prop := entryBackUptoRow.holds Try.pinned (OpenSpec.upto entryBackSpec)

/-- 'wayleavelaw.EntryMarks', WHERE WHAT IT READS IS OF BULK AT MOST 1048576: true; the input reads as it did. -/
def entryMarksUptoRow : OpenClaim := { program := "ytoppmollbodigaa", sum := "35054b8d23eca7814025f0ddfb24f31c33145eb6ff38ff491c97358d244c83c4", func := "wayleave/wayleavelaw.EntryMarks", spec := "entryMarks", unfollowed := true, recurses := true, apart := false, narrowed := true }
def EntryMarksUptoSaid : Prop := entryMarksUptoRow.holds Try.pinned (OpenSpec.upto entryMarksSpec)

/-- 'wayleavelaw.EntryDoes', WHERE WHAT IT READS IS OF BULK AT MOST 1048576: true; the input reads as it did. -/
def entryDoesUptoRow : OpenClaim := { program := "ytoppmollbodigaa", sum := "35054b8d23eca7814025f0ddfb24f31c33145eb6ff38ff491c97358d244c83c4", func := "wayleave/wayleavelaw.EntryDoes", spec := "entryDoes", unfollowed := true, recurses := true, apart := false, narrowed := true }
def EntryDoesUptoSaid : Prop := entryDoesUptoRow.holds Try.pinned (OpenSpec.upto entryDoesSpec)

end Rows
end Go.Proofs.Ytoppmollbodigaa
