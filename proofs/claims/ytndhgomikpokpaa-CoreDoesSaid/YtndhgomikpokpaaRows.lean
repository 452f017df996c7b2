/-
  No cell of these rows narrows 'for every input' (looked for: loops, veiled, ifaces, maps, wideKeys, modest, calm, conditions, laid).
  DERIVED. THE GIVEN ROWS OF THIS SEAT. 12 by the template 'for every input the law returns true; each argument reads behind the call as it read before'; 0 by the template 'total and deterministic' (their statements: YtndhgomikpokpaaTotals.lean).
  GIVEN WITH THE SEED: the statements are not yours to turn. If you find one false, say at which input.
  Laid BY PROGRAM, IN A SANDBOX (cutbox-rows.mjs): the forced cells as the released guide's own fill.sh prints them over the translation 785121e9eadde683… (all of the seat's roots in one cut). By AI agents, Wed Nov 11 2026. No macro, syntax, notation, axiom, sorry.
-/
import Derived.Test.YtndhgomikpokpaaChecked
import GoSem.Claim
import GoSem.ClaimJoined
import GoSem.ClaimMapViews
import Derived.JoinedTies
import Derived.KernelRfl
namespace Go.Proofs.Ytndhgomikpokpaa
/- THE CELL 'sum', in the pinned program and in every row, IS THE sha256 OF THE DUMP (.gsa) THAT YtndhgomikpokpaaProg.lean LOADS. Nothing in Lean hashes anything: it is a label: what it is worth is what the hold of that sum in a sandbox is worth. -/
noncomputable def Try.pinned : Pinned := { name := "ytndhgomikpokpaa", sum := "785121e9eadde683a51a16861cb78af89740171643a767b58b0cd414ff28b29e", checked := Try.checked }
namespace Rows
def none {H : Type} : Left H := { results := [], args := [] }

/-- 'wayleavelaw.BookTurns': WHATEVER THE INPUT: true; the input reads as it did. -/
def bookTurnsSpec : ChangeSpec := { name := "bookTurns", fn := fun _ => fun
  | [d1, d2] => { results := [.lit (.bool true)], args := [d1, d2] }
  | _ => none }
def bookTurnsRow : OpenClaim := { program := "ytndhgomikpokpaa", sum := "785121e9eadde683a51a16861cb78af89740171643a767b58b0cd414ff28b29e", func := "wayleave/wayleavelaw.BookTurns", spec := "bookTurns", inPlace := ["slices.overlaps[wayleave/api.Map]"], unfollowed := true, recurses := true, apart := false }
def BookTurnsSaid : Prop := bookTurnsRow.holds Try.pinned (OpenSpec.ofChange bookTurnsSpec)

/-- ITS FALSE NEIGHBOUR: 'it returns false'. Refute it at one input. -/
def bookTurnsWrong : ChangeSpec := { name := "bookTurns", fn := fun _ => fun
  | [d1, d2] => { results := [.lit (.bool false)], args := [d1, d2] }
  | _ => none }
def BookTurnsWrongFalsely : Prop := bookTurnsRow.holds Try.pinned (OpenSpec.ofChange bookTurnsWrong)

/-- 'wayleavelaw.WalkerEnds': WHATEVER THE INPUT: true; the input reads as it did. -/
def walkerEndsSpec : ChangeSpec := { name := "walkerEnds", fn := fun _ => fun
  | [d1, d2, d3] => { results := [.lit (.bool true)], args := [d1, d2, d3] }
  | _ => none }
def walkerEndsRow : OpenClaim := { program := "ytndhgomikpokpaa", sum := "785121e9eadde683a51a16861cb78af89740171643a767b58b0cd414ff28b29e", func := "wayleave/wayleavelaw.WalkerEnds", spec := "walkerEnds", unfollowed := true, recurses := true, apart := false }
def WalkerEndsSaid : Prop := walkerEndsRow.holds Try.pinned (OpenSpec.ofChange walkerEndsSpec)

/-- ITS FALSE NEIGHBOUR: 'it returns false'. Refute it at one input. -/
def walkerEndsWrong : ChangeSpec := { name := "walkerEnds", fn := fun _ => fun
  | [d1, d2, d3] => { results := [.lit (.bool false)], args := [d1, d2, d3] }
  | _ => none }
def WalkerEndsWrongFalsely : Prop := walkerEndsRow.holds Try.pinned (OpenSpec.ofChange walkerEndsWrong)

/-- 'wayleavelaw.BookApart': WHATEVER THE INPUT: true; the input reads as it did. -/
def bookApartSpec : ChangeSpec := { name := "bookApart", fn := fun _ => fun
  | [d1, d2] => { results := [.lit (.bool true)], args := [d1, d2] }
  | _ => none }
def bookApartRow : OpenClaim := { program := "ytndhgomikpokpaa", sum := "785121e9eadde683a51a16861cb78af89740171643a767b58b0cd414ff28b29e", func := "wayleave/wayleavelaw.BookApart", spec := "bookApart", inPlace := ["slices.overlaps[wayleave/api.Map]"], unfollowed := true, recurses := true, apart := false }
def BookApartSaid : Prop := bookApartRow.holds Try.pinned (OpenSpec.ofChange bookApartSpec)

/-- ITS FALSE NEIGHBOUR: 'it returns false'. Refute it at one input. -/
def bookApartWrong : ChangeSpec := { name := "bookApart", fn := fun _ => fun
  | [d1, d2] => { results := [.lit (.bool false)], args := [d1, d2] }
  | _ => none }
def BookApartWrongFalsely : Prop := bookApartRow.holds Try.pinned (OpenSpec.ofChange bookApartWrong)

/-- 'wayleavelaw.BookDoes': WHATEVER THE INPUT: true; the input reads as it did. -/
def bookDoesSpec : ChangeSpec := { name := "bookDoes", fn := fun _ => fun
  | [d] => { results := [.lit (.bool true)], args := [d] }
  | _ => none }
def bookDoesRow : OpenClaim := { program := "ytndhgomikpokpaa", sum := "785121e9eadde683a51a16861cb78af89740171643a767b58b0cd414ff28b29e", func := "wayleave/wayleavelaw.BookDoes", spec := "bookDoes", inPlace := ["slices.overlaps[wayleave/api.Map]"], unfollowed := true, recurses := true, apart := false }
def BookDoesSaid : Prop := bookDoesRow.holds Try.pinned (OpenSpec.ofChange bookDoesSpec)

/-- ITS FALSE NEIGHBOUR: 'it returns false'. Refute it at one input. -/
def bookDoesWrong : ChangeSpec := { name := "bookDoes", fn := fun _ => fun
  | [d] => { results := [.lit (.bool false)], args := [d] }
  | _ => none }
def BookDoesWrongFalsely : Prop := bookDoesRow.holds Try.pinned (OpenSpec.ofChange bookDoesWrong)

/-- 'wayleavelaw.WalkerDoes': WHATEVER THE INPUT: true; the input reads as it did. -/
def walkerDoesSpec : ChangeSpec := { name := "walkerDoes", fn := fun _ => fun
  | [d1, d2, d3, d4, d5] => { results := [.lit (.bool true)], args := [d1, d2, d3, d4, d5] }
  | _ => none }
def walkerDoesRow : OpenClaim := { program := "ytndhgomikpokpaa", sum := "785121e9eadde683a51a16861cb78af89740171643a767b58b0cd414ff28b29e", func := "wayleave/wayleavelaw.WalkerDoes", spec := "walkerDoes", unfollowed := true, recurses := true, apart := false }
def WalkerDoesSaid : Prop := walkerDoesRow.holds Try.pinned (OpenSpec.ofChange walkerDoesSpec)

/-- ITS FALSE NEIGHBOUR: 'it returns false'. Refute it at one input. -/
def walkerDoesWrong : ChangeSpec := { name := "walkerDoes", fn := fun _ => fun
  | [d1, d2, d3, d4, d5] => { results := [.lit (.bool false)], args := [d1, d2, d3, d4, d5] }
  | _ => none }
def WalkerDoesWrongFalsely : Prop := walkerDoesRow.holds Try.pinned (OpenSpec.ofChange walkerDoesWrong)

/-- 'wayleavelaw.WalkerSame': WHATEVER THE INPUT: true; the input reads as it did. -/
def walkerSameSpec : ChangeSpec := { name := "walkerSame", fn := fun _ => fun
  | [d1, d2, d3, d4] => { results := [.lit (.bool true)], args := [d1, d2, d3, d4] }
  | _ => none }
def walkerSameRow : OpenClaim := { program := "ytndhgomikpokpaa", sum := "785121e9eadde683a51a16861cb78af89740171643a767b58b0cd414ff28b29e", func := "wayleave/wayleavelaw.WalkerSame", spec := "walkerSame", unfollowed := true, recurses := true, apart := false }
def WalkerSameSaid : Prop := walkerSameRow.holds Try.pinned (OpenSpec.ofChange walkerSameSpec)

/-- ITS FALSE NEIGHBOUR: 'it returns false'. Refute it at one input. -/
def walkerSameWrong : ChangeSpec := { name := "walkerSame", fn := fun _ => fun
  | [d1, d2, d3, d4] => { results := [.lit (.bool false)], args := [d1, d2, d3, d4] }
  | _ => none }
def WalkerSameWrongFalsely : Prop := walkerSameRow.holds Try.pinned (OpenSpec.ofChange walkerSameWrong)

/-- 'wayleavelaw.TableStays': WHATEVER THE INPUT: true; the input reads as it did. -/
def tableStaysSpec : ChangeSpec := { name := "tableStays", fn := fun _ => fun
  | [d1, d2, d3] => { results := [.lit (.bool true)], args := [d1, d2, d3] }
  | _ => none }
def tableStaysRow : OpenClaim := { program := "ytndhgomikpokpaa", sum := "785121e9eadde683a51a16861cb78af89740171643a767b58b0cd414ff28b29e", func := "wayleave/wayleavelaw.TableStays", spec := "tableStays", unfollowed := true, recurses := true, apart := false }
def TableStaysSaid : Prop := tableStaysRow.holds Try.pinned (OpenSpec.ofChange tableStaysSpec)

/-- ITS FALSE NEIGHBOUR: 'it returns false'. Refute it at one input. -/
def tableStaysWrong : ChangeSpec := { name := "tableStays", fn := fun _ => fun
  | [d1, d2, d3] => { results := [.lit (.bool false)], args := [d1, d2, d3] }
  | _ => none }
def TableStaysWrongFalsely : Prop := tableStaysRow.holds Try.pinned (OpenSpec.ofChange tableStaysWrong)

/-- 'wayleavelaw.TableDoes': WHATEVER THE INPUT: true; the input reads as it did. -/
def tableDoesSpec : ChangeSpec := { name := "tableDoes", fn := fun _ => fun
  | [d1, d2, d3, d4] => { results := [.lit (.bool true)], args := [d1, d2, d3, d4] }
  | _ => none }
def tableDoesRow : OpenClaim := { program := "ytndhgomikpokpaa", sum := "785121e9eadde683a51a16861cb78af89740171643a767b58b0cd414ff28b29e", func := "wayleave/wayleavelaw.TableDoes", spec := "tableDoes", unfollowed := true, recurses := true, apart := false }
def TableDoesSaid : Prop := tableDoesRow.holds Try.pinned (OpenSpec.ofChange tableDoesSpec)

/-- ITS FALSE NEIGHBOUR: 'it returns false'. Refute it at one input. -/
def tableDoesWrong : ChangeSpec := { name := "tableDoes", fn := fun _ => fun
  | [d1, d2, d3, d4] => { results := [.lit (.bool false)], args := [d1, d2, d3, d4] }
  | _ => none }
def TableDoesWrongFalsely : Prop := tableDoesRow.holds Try.pinned (OpenSpec.ofChange tableDoesWrong)

/-- 'wayleavelaw.TableKeeps': WHATEVER THE INPUT: true; the input reads as it did. -/
def tableKeepsSpec : ChangeSpec := { name := "tableKeeps", fn := fun _ => fun
  | [d1, d2, d3] => { results := [.lit (.bool true)], args := [d1, d2, d3] }
  | _ => none }
def tableKeepsRow : OpenClaim := { program := "ytndhgomikpokpaa", sum := "785121e9eadde683a51a16861cb78af89740171643a767b58b0cd414ff28b29e", func := "wayleave/wayleavelaw.TableKeeps", spec := "tableKeeps", unfollowed := true, recurses := true, apart := false }
def TableKeepsSaid : Prop := tableKeepsRow.holds Try.pinned (OpenSpec.ofChange tableKeepsSpec)

/-- ITS FALSE NEIGHBOUR: 'it returns false'. Refute it at one input. -/
def tableKeepsWrong : ChangeSpec := { name := "tableKeeps", fn := fun _ => fun
  | [d1, d2, d3] => { results := [.lit (.bool false)], args := [d1, d2, d3] }
  | _ => none }
def TableKeepsWrongFalsely : Prop := tableKeepsRow.holds Try.pinned (OpenSpec.ofChange tableKeepsWrong)

/-- 'wayleavelaw.CoreKeeps': WHATEVER THE INPUT: true; the input reads as it did. -/
def coreKeepsSpec : ChangeSpec := { name := "coreKeeps", fn := fun _ => fun
  | [d1, d2, d3] => { results := [.lit (.bool true)], args := [d1, d2, d3] }
  | _ => none }
def coreKeepsRow : OpenClaim := { program := "ytndhgomikpokpaa", sum := "785121e9eadde683a51a16861cb78af89740171643a767b58b0cd414ff28b29e", func := "wayleave/wayleavelaw.CoreKeeps", spec := "coreKeeps", unfollowed := true, recurses := true, apart := false }
def CoreKeepsSaid : Prop := coreKeepsRow.holds Try.pinned (OpenSpec.ofChange coreKeepsSpec)

/-- ITS FALSE NEIGHBOUR: 'it returns false'. Refute it at one input. -/
def coreKeepsWrong : ChangeSpec := { name := "coreKeeps", fn := fun _ => fun
  | [d1, d2, d3] => { results := [.lit (.bool false)], args := [d1, d2, d3] }
  | _ => none }
def CoreKeepsWrongFalsely : Prop := coreKeepsRow.holds Try.pinned (OpenSpec.ofChange coreKeepsWrong)

/-- 'wayleavelaw.CoreDoes': WHATEVER THE INPUT: true; the input reads as it did. -/
def coreDoesSpec : ChangeSpec := { name := "coreDoes", fn := fun _ => fun
  | [d1, d2, d3, d4] => { results := [.lit (.bool true)], args := [d1, d2, d3, d4] }
  | _ => none }
def coreDoesRow : OpenClaim := { program := "ytndhgomikpokpaa", sum := "785121e9eadde683a51a16861cb78af89740171643a767b58b0cd414ff28b29e", func := "wayleave/wayleavelaw.CoreDoes", spec := "coreDoes", unfollowed := true, recurses := true, apart := false }
def CoreDoesSaid : Prop := coreDoesRow.holds Try.pinned (OpenSpec.ofChange coreDoesSpec)

/-- ITS FALSE NEIGHBOUR: 'it returns false'. Refute it at one input. -/
def coreDoesWrong : ChangeSpec := { name := "coreDoes", fn := fun _ => fun
  | [d1, d2, d3, d4] => { results := [.lit (.bool false)], args := [d1, d2, d3, d4] }
  | _ => none }
def CoreDoesWrongFalsely : Prop := coreDoesRow.holds Try.pinned (OpenSpec.ofChange coreDoesWrong)

/-- 'wayleavelaw.TableBook': WHATEVER THE INPUT: true; the input reads as it did. -/
def tableBookSpec : ChangeSpec := { name := "tableBook", fn := fun _ => fun
  | [d1, d2] => { results := [.lit (.bool true)], args := [d1, d2] }
  | _ => none }
def tableBookRow : OpenClaim := { program := "ytndhgomikpokpaa", sum := "785121e9eadde683a51a16861cb78af89740171643a767b58b0cd414ff28b29e", func := "wayleave/wayleavelaw.TableBook", spec := "tableBook", inPlace := ["slices.overlaps[wayleave/api.Map]"], unfollowed := true, recurses := true, apart := false }
def TableBookSaid : Prop := tableBookRow.holds Try.pinned (OpenSpec.ofChange tableBookSpec)

/-- ITS FALSE NEIGHBOUR: 'it returns false'. Refute it at one input. -/
def tableBookWrong : ChangeSpec := { name := "tableBook", fn := fun _ => fun
  | [d1, d2] => { results := [.lit (.bool false)], args := [d1, d2] }
  | _ => none }
def TableBookWrongFalsely : Prop := tableBookRow.holds Try.pinned (OpenSpec.ofChange tableBookWrong)

/- THE SECOND FORM. 'bulk': how many values and letters a reading holds, each counted each time it is reached (what is shared counts as often as it is met; a slice's spare places count too). A statement '..UptoSaid' is the law's where the arguments, and the package variables that the reading takes, are together of bulk at most 1048576: NARROWER than '..Said'. Prove '..Said' where nothing that the law and all that it calls make is longer than what came in: it says more and counts as full. Else prove '..UptoSaid'. A law counts once. -/
mutual
def uptoBulk {H : Type} : DataW H → Nat
  | .lit (.string bytes) => bytes.length + 1
  | .lit _ => 1
  | .nil => 1
  | .ptr d => uptoBulk d + 1
  | .slice elems spare => uptoBulkAll elems + uptoBulkAll spare + 1
  | .agg parts => uptoBulkAll parts + 1
  | .iface _ d => uptoBulk d + 1
  | .map entries => uptoBulkEntries entries + 1
  | .held _ => 1
def uptoBulkAll {H : Type} : List (DataW H) → Nat
  | [] => 0
  | d :: r => uptoBulk d + uptoBulkAll r
def uptoBulkEntries {H : Type} : List (Lit × DataW H) → Nat
  | [] => 0
  | x :: r => uptoBulkEntry x + uptoBulkEntries r
def uptoBulkEntry {H : Type} : Lit × DataW H → Nat
  | (.string bytes, d) => bytes.length + uptoBulk d + 1
  | (_, d) => uptoBulk d + 1
 end
def uptoSmall : (H : Type) → List (DataW H) → Bool := fun _ ds => decide (uptoBulkAll ds ≤ 1048576)
def OpenSpec.upto (s : _root_.Go.ChangeSpec) : _root_.Go.OpenSpec := { _root_.Go.OpenSpec.ofChange s with cond := some uptoSmall }

/-- 'wayleavelaw.BookTurns', WHERE WHAT IT READS IS OF BULK AT MOST 1048576: true; the input reads as it did. -/
def bookTurnsUptoRow : OpenClaim := { program := "ytndhgomikpokpaa", sum := "785121e9eadde683a51a16861cb78af89740171643a767b58b0cd414ff28b29e", func := "wayleave/wayleavelaw.BookTurns", spec := "bookTurns", inPlace := ["slices.overlaps[wayleave/api.Map]"], unfollowed := true, recurses := true, apart := false, narrowed := true }
def BookTurnsUptoSaid : Prop := bookTurnsUptoRow.holds Try.pinned (OpenSpec.upto bookTurnsSpec)

/-- 'wayleavelaw.WalkerEnds', WHERE WHAT IT READS IS OF BULK AT MOST 1048576: true; the input reads as it did. -/
def walkerEndsUptoRow : OpenClaim := { program := "ytndhgomikpokpaa", sum := "785121e9eadde683a51a16861cb78af89740171643a767b58b0cd414ff28b29e", func := "wayleave/wayleavelaw.WalkerEnds", spec := "walkerEnds", unfollowed := true, recurses := true, apart := false, narrowed := true }
def WalkerEndsUptoSaid : Prop := walkerEndsUptoRow.holds Try.pinned (OpenSpec.upto walkerEndsSpec)

/-- 'wayleavelaw.BookApart', WHERE WHAT IT READS IS OF BULK AT MOST 1048576: true; the input reads as it did. -/
def bookApartUptoRow : OpenClaim := { program := "ytndhgomikpokpaa", sum := "785121e9eadde683a51a16861cb78af89740171643a767b58b0cd414ff28b29e", func := "wayleave/wayleavelaw.BookApart", spec := "bookApart", inPlace := ["slices.overlaps[wayleave/api.Map]"], unfollowed := true, recurses := true, apart := false, narrowed := true }
def BookApartUptoSaid : Prop := bookApartUptoRow.holds Try.pinned (OpenSpec.upto bookApartSpec)

/-- 'wayleavelaw.BookDoes', WHERE WHAT IT READS IS OF BULK AT MOST 1048576: true; the input reads as it did. -/
def bookDoesUptoRow : OpenClaim := { program := "ytndhgomikpokpaa", sum := "785121e9eadde683a51a16861cb78af89740171643a767b58b0cd414ff28b29e", func := "wayleave/wayleavelaw.BookDoes", spec := "bookDoes", inPlace := ["slices.overlaps[wayleave/api.Map]"], unfollowed := true, recurses := true, apart := false, narrowed := true }
def BookDoesUptoSaid : Prop := bookDoesUptoRow.holds Try.pinned (OpenSpec.upto bookDoesSpec)

/-- 'wayleavelaw.WalkerDoes', WHERE WHAT IT READS IS OF BULK AT MOST 1048576: true; the input reads as it did. -/
def walkerDoesUptoRow : OpenClaim := { program := "ytndhgomikpokpaa", sum := "785121e9eadde683a51a16861cb78af89740171643a767b58b0cd414ff28b29e", func := "wayleave/wayleavelaw.WalkerDoes", spec := "walkerDoes", unfollowed := true, recurses := true, apart := false, narrowed := true }
def WalkerDoesUptoSaid : Prop := walkerDoesUptoRow.holds Try.pinned (OpenSpec.upto walkerDoesSpec)

/-- 'wayleavelaw.WalkerSame', WHERE WHAT IT READS IS OF BULK AT MOST 1048576: true; the input reads as it did. -/
def walkerSameUptoRow : OpenClaim := { program := "ytndhgomikpokpaa", sum := "785121e9eadde683a51a16861cb78af89740171643a767b58b0cd414ff28b29e", func := "wayleave/wayleavelaw.WalkerSame", spec := "walkerSame", unfollowed := true, recurses := true, apart := false, narrowed := true }
def WalkerSameUptoSaid : Prop := walkerSameUptoRow.holds Try.pinned (OpenSpec.upto walkerSameSpec)

/-- 'wayleavelaw.TableStays', WHERE WHAT IT READS IS OF BULK AT MOST 1048576: true; the input reads as it did. -/
def tableStaysUptoRow : OpenClaim := { program := "ytndhgomikpokpaa", sum := "785121e9eadde683a51a16861cb78af89740171643a767b58b0cd414ff28b29e", func := "wayleave/wayleavelaw.TableStays", spec := "tableStays", unfollowed := true, recurses := true, apart := false, narrowed := true }
def TableStaysUptoSaid : Prop := tableStaysUptoRow.holds Try.pinned (OpenSpec.upto tableStaysSpec)

/-- 'wayleavelaw.TableDoes', WHERE WHAT IT READS IS OF BULK AT MOST 1048576: true; the input reads as it did. -/
def tableDoesUptoRow : OpenClaim := { program := "ytndhgomikpokpaa", sum := "785121e9eadde683a51a16861cb78af89740171643a767b58b0cd414ff28b29e", func := "wayleave/wayleavelaw.TableDoes", spec := "tableDoes", unfollowed := true, recurses := true, apart := false, narrowed := true }
def TableDoesUptoSaid : Prop := tableDoesUptoRow.holds Try.pinned (OpenSpec.upto tableDoesSpec)

/-- 'wayleavelaw.TableKeeps', WHERE WHAT IT READS IS OF BULK AT MOST 1048576: true; the input reads as it did. -/
def tableKeepsUptoRow : OpenClaim := { program := "ytndhgomikpokpaa", sum := "785121e9eadde683a51a16861cb78af89740171643a767b58b0cd414ff28b29e", func := "wayleave/wayleavelaw.TableKeeps", spec := "tableKeeps", unfollowed := true, recurses := true, apart := false, narrowed := true }
def TableKeepsUptoSaid : Prop := tableKeepsUptoRow.holds Try.pinned (OpenSpec.upto tableKeepsSpec)

/-- 'wayleavelaw.CoreKeeps', WHERE WHAT IT READS IS OF BULK AT MOST 1048576: true; the input reads as it did. -/
def coreKeepsUptoRow : OpenClaim := { program := "ytndhgomikpokpaa", sum := "785121e9eadde683a51a16861cb78af89740171643a767b58b0cd414ff28b29e", func := "wayleave/wayleavelaw.CoreKeeps", spec := "coreKeeps", unfollowed := true, recurses := true, apart := false, narrowed := true }
def CoreKeepsUptoSaid : Prop := coreKeepsUptoRow.holds Try.pinned (OpenSpec.upto coreKeepsSpec)

/-- 'wayleavelaw.CoreDoes', WHERE WHAT IT READS IS OF BULK AT MOST 1048576: true; the input reads as it did. -/
def coreDoesUptoRow : OpenClaim := { program := "ytndhgomikpokpaa", sum := "785121e9eadde683a51a16861cb78af89740171643a767b58b0cd414ff28b29e", func := "wayleave/wayleavelaw.CoreDoes", spec := "coreDoes", unfollowed := true, recurses := true, apart := false, narrowed := true }
def CoreDoesUptoSaid : Prop := coreDoesUptoRow.holds Try.pinned (OpenSpec.upto coreDoesSpec)

/-- 'wayleavelaw.TableBook', WHERE WHAT IT READS IS OF BULK AT MOST 1048576: true; the input reads as it did. -/
def tableBookUptoRow : OpenClaim := { program := "ytndhgomikpokpaa", sum := "785121e9eadde683a51a16861cb78af89740171643a767b58b0cd414ff28b29e", func := "wayleave/wayleavelaw.TableBook", spec := "tableBook", inPlace := ["slices.overlaps[wayleave/api.Map]"], unfollowed := true, recurses := true, apart := false, narrowed := true }
def TableBookUptoSaid : Prop := tableBookUptoRow.holds Try.pinned (OpenSpec.upto tableBookSpec)

end Rows
end Go.Proofs.Ytndhgomikpokpaa
