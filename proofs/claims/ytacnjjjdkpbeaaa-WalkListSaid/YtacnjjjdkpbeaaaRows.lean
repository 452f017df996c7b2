/-
  No cell of these rows narrows 'for every input' (looked for: loops, veiled, ifaces, maps, wideKeys, modest, calm, conditions, laid).
  DERIVED. THE GIVEN ROWS OF THIS SEAT. 11 by the template 'for every input the law returns true; each argument reads behind the call as it read before'; 0 by the template 'total and deterministic' (their statements: YtacnjjjdkpbeaaaTotals.lean).
  GIVEN WITH THE SEED: the statements are not yours to turn. If you find one false, say at which input.
  Laid BY PROGRAM, IN A SANDBOX (cutbox-rows.mjs): the forced cells as the released guide's own fill.sh prints them over the translation 9db0c2f9b9d3ebc1… (all of the seat's roots in one cut). By AI agents, Wed Nov 11 2026. No macro, syntax, notation, axiom, sorry.
-/
import Derived.Test.YtacnjjjdkpbeaaaChecked
import GoSem.Claim
import GoSem.ClaimJoined
import GoSem.ClaimMapViews
import Derived.JoinedTies
import Derived.KernelRfl
namespace Go.Proofs.Ytacnjjjdkpbeaaa
/- THE CELL 'sum', in the pinned program and in every row, IS THE sha256 OF THE DUMP (.gsa) THAT YtacnjjjdkpbeaaaProg.lean LOADS. Nothing in Lean hashes anything: it is a label: what it is worth is what the hold of that sum in a sandbox is worth. -/
noncomputable def Try.pinned : Pinned := { name := "ytacnjjjdkpbeaaa", sum := "9db0c2f9b9d3ebc1904faa57b3ebdf61a7b3941451a334c0bb8af7b9b403bc09", checked := Try.checked }
namespace Rows
def none {H : Type} : Left H := { results := [], args := [] }

/-- 'wayleavelaw.TlbDoes': WHATEVER THE INPUT: true; the input reads as it did. -/
def tlbDoesSpec : ChangeSpec := { name := "tlbDoes", fn := fun _ => fun
  | [d] => { results := [.lit (.bool true)], args := [d] }
  | _ => none }
def tlbDoesRow : OpenClaim := { program := "ytacnjjjdkpbeaaa", sum := "9db0c2f9b9d3ebc1904faa57b3ebdf61a7b3941451a334c0bb8af7b9b403bc09", func := "wayleave/wayleavelaw.TlbDoes", spec := "tlbDoes", unfollowed := true, recurses := true, apart := false }
def TlbDoesSaid : Prop := tlbDoesRow.holds Try.pinned (OpenSpec.ofChange tlbDoesSpec)

/-- ITS FALSE NEIGHBOUR: 'it returns false'. Refute it at one input. -/
def tlbDoesWrong : ChangeSpec := { name := "tlbDoes", fn := fun _ => fun
  | [d] => { results := [.lit (.bool false)], args := [d] }
  | _ => none }
def TlbDoesWrongFalsely : Prop := tlbDoesRow.holds Try.pinned (OpenSpec.ofChange tlbDoesWrong)

/-- 'wayleavelaw.TlbApart': WHATEVER THE INPUT: true; the input reads as it did. -/
def tlbApartSpec : ChangeSpec := { name := "tlbApart", fn := fun _ => fun
  | [d] => { results := [.lit (.bool true)], args := [d] }
  | _ => none }
def tlbApartRow : OpenClaim := { program := "ytacnjjjdkpbeaaa", sum := "9db0c2f9b9d3ebc1904faa57b3ebdf61a7b3941451a334c0bb8af7b9b403bc09", func := "wayleave/wayleavelaw.TlbApart", spec := "tlbApart", unfollowed := true, recurses := true, apart := false }
def TlbApartSaid : Prop := tlbApartRow.holds Try.pinned (OpenSpec.ofChange tlbApartSpec)

/-- ITS FALSE NEIGHBOUR: 'it returns false'. Refute it at one input. -/
def tlbApartWrong : ChangeSpec := { name := "tlbApart", fn := fun _ => fun
  | [d] => { results := [.lit (.bool false)], args := [d] }
  | _ => none }
def TlbApartWrongFalsely : Prop := tlbApartRow.holds Try.pinned (OpenSpec.ofChange tlbApartWrong)

/-- 'wayleavelaw.TlbLatest': WHATEVER THE INPUT: true; the input reads as it did. -/
def tlbLatestSpec : ChangeSpec := { name := "tlbLatest", fn := fun _ => fun
  | [d1, d2, d3] => { results := [.lit (.bool true)], args := [d1, d2, d3] }
  | _ => none }
def tlbLatestRow : OpenClaim := { program := "ytacnjjjdkpbeaaa", sum := "9db0c2f9b9d3ebc1904faa57b3ebdf61a7b3941451a334c0bb8af7b9b403bc09", func := "wayleave/wayleavelaw.TlbLatest", spec := "tlbLatest", unfollowed := true, recurses := true, apart := false }
def TlbLatestSaid : Prop := tlbLatestRow.holds Try.pinned (OpenSpec.ofChange tlbLatestSpec)

/-- ITS FALSE NEIGHBOUR: 'it returns false'. Refute it at one input. -/
def tlbLatestWrong : ChangeSpec := { name := "tlbLatest", fn := fun _ => fun
  | [d1, d2, d3] => { results := [.lit (.bool false)], args := [d1, d2, d3] }
  | _ => none }
def TlbLatestWrongFalsely : Prop := tlbLatestRow.holds Try.pinned (OpenSpec.ofChange tlbLatestWrong)

/-- 'wayleavelaw.WalkDoes': WHATEVER THE INPUT: true; the input reads as it did. -/
def walkDoesSpec : ChangeSpec := { name := "walkDoes", fn := fun _ => fun
  | [d1, d2, d3, d4, d5] => { results := [.lit (.bool true)], args := [d1, d2, d3, d4, d5] }
  | _ => none }
def walkDoesRow : OpenClaim := { program := "ytacnjjjdkpbeaaa", sum := "9db0c2f9b9d3ebc1904faa57b3ebdf61a7b3941451a334c0bb8af7b9b403bc09", func := "wayleave/wayleavelaw.WalkDoes", spec := "walkDoes", unfollowed := true, recurses := true, apart := false }
def WalkDoesSaid : Prop := walkDoesRow.holds Try.pinned (OpenSpec.ofChange walkDoesSpec)

/-- ITS FALSE NEIGHBOUR: 'it returns false'. Refute it at one input. -/
def walkDoesWrong : ChangeSpec := { name := "walkDoes", fn := fun _ => fun
  | [d1, d2, d3, d4, d5] => { results := [.lit (.bool false)], args := [d1, d2, d3, d4, d5] }
  | _ => none }
def WalkDoesWrongFalsely : Prop := walkDoesRow.holds Try.pinned (OpenSpec.ofChange walkDoesWrong)

/-- 'wayleavelaw.WalkList': WHATEVER THE INPUT: true; the input reads as it did. -/
def walkListSpec : ChangeSpec := { name := "walkList", fn := fun _ => fun
  | [d1, d2, d3] => { results := [.lit (.bool true)], args := [d1, d2, d3] }
  | _ => none }
def walkListRow : OpenClaim := { program := "ytacnjjjdkpbeaaa", sum := "9db0c2f9b9d3ebc1904faa57b3ebdf61a7b3941451a334c0bb8af7b9b403bc09", func := "wayleave/wayleavelaw.WalkList", spec := "walkList", unfollowed := true, recurses := true, apart := false }
def WalkListSaid : Prop := walkListRow.holds Try.pinned (OpenSpec.ofChange walkListSpec)

/-- ITS FALSE NEIGHBOUR: 'it returns false'. Refute it at one input. -/
def walkListWrong : ChangeSpec := { name := "walkList", fn := fun _ => fun
  | [d1, d2, d3] => { results := [.lit (.bool false)], args := [d1, d2, d3] }
  | _ => none }
def WalkListWrongFalsely : Prop := walkListRow.holds Try.pinned (OpenSpec.ofChange walkListWrong)

/-- 'wayleavelaw.BookTurns': WHATEVER THE INPUT: true; the input reads as it did. -/
def bookTurnsSpec : ChangeSpec := { name := "bookTurns", fn := fun _ => fun
  | [d1, d2] => { results := [.lit (.bool true)], args := [d1, d2] }
  | _ => none }
def bookTurnsRow : OpenClaim := { program := "ytacnjjjdkpbeaaa", sum := "9db0c2f9b9d3ebc1904faa57b3ebdf61a7b3941451a334c0bb8af7b9b403bc09", func := "wayleave/wayleavelaw.BookTurns", spec := "bookTurns", inPlace := ["slices.overlaps[wayleave/api.Map]"], unfollowed := true, recurses := true, apart := false }
def BookTurnsSaid : Prop := bookTurnsRow.holds Try.pinned (OpenSpec.ofChange bookTurnsSpec)

/-- ITS FALSE NEIGHBOUR: 'it returns false'. Refute it at one input. -/
def bookTurnsWrong : ChangeSpec := { name := "bookTurns", fn := fun _ => fun
  | [d1, d2] => { results := [.lit (.bool false)], args := [d1, d2] }
  | _ => none }
def BookTurnsWrongFalsely : Prop := bookTurnsRow.holds Try.pinned (OpenSpec.ofChange bookTurnsWrong)

/-- 'wayleavelaw.WalkerEnds': WHATEVER THE INPUT: true; the input reads as it did. -/
def walkerEndsSpec : ChangeSpec := { name := "walkerEnds", fn := fun _ => fun
  | [d1, d2, d3] => { results := [.lit (.bool true)], args := [d1, d2, d3] }
  | _ => none }
def walkerEndsRow : OpenClaim := { program := "ytacnjjjdkpbeaaa", sum := "9db0c2f9b9d3ebc1904faa57b3ebdf61a7b3941451a334c0bb8af7b9b403bc09", func := "wayleave/wayleavelaw.WalkerEnds", spec := "walkerEnds", unfollowed := true, recurses := true, apart := false }
def WalkerEndsSaid : Prop := walkerEndsRow.holds Try.pinned (OpenSpec.ofChange walkerEndsSpec)

/-- ITS FALSE NEIGHBOUR: 'it returns false'. Refute it at one input. -/
def walkerEndsWrong : ChangeSpec := { name := "walkerEnds", fn := fun _ => fun
  | [d1, d2, d3] => { results := [.lit (.bool false)], args := [d1, d2, d3] }
  | _ => none }
def WalkerEndsWrongFalsely : Prop := walkerEndsRow.holds Try.pinned (OpenSpec.ofChange walkerEndsWrong)

/-- 'wayleavelaw.BookApart': WHATEVER THE INPUT: true; the input reads as it did. -/
def bookApartSpec : ChangeSpec := { name := "bookApart", fn := fun _ => fun
  | [d1, d2] => { results := [.lit (.bool true)], args := [d1, d2] }
  | _ => none }
def bookApartRow : OpenClaim := { program := "ytacnjjjdkpbeaaa", sum := "9db0c2f9b9d3ebc1904faa57b3ebdf61a7b3941451a334c0bb8af7b9b403bc09", func := "wayleave/wayleavelaw.BookApart", spec := "bookApart", inPlace := ["slices.overlaps[wayleave/api.Map]"], unfollowed := true, recurses := true, apart := false }
def BookApartSaid : Prop := bookApartRow.holds Try.pinned (OpenSpec.ofChange bookApartSpec)

/-- ITS FALSE NEIGHBOUR: 'it returns false'. Refute it at one input. -/
def bookApartWrong : ChangeSpec := { name := "bookApart", fn := fun _ => fun
  | [d1, d2] => { results := [.lit (.bool false)], args := [d1, d2] }
  | _ => none }
def BookApartWrongFalsely : Prop := bookApartRow.holds Try.pinned (OpenSpec.ofChange bookApartWrong)

/-- 'wayleavelaw.BookDoes': WHATEVER THE INPUT: true; the input reads as it did. -/
def bookDoesSpec : ChangeSpec := { name := "bookDoes", fn := fun _ => fun
  | [d] => { results := [.lit (.bool true)], args := [d] }
  | _ => none }
def bookDoesRow : OpenClaim := { program := "ytacnjjjdkpbeaaa", sum := "9db0c2f9b9d3ebc1904faa57b3ebdf61a7b3941451a334c0bb8af7b9b403bc09", func := "wayleave/wayleavelaw.BookDoes", spec := "bookDoes", inPlace := ["slices.overlaps[wayleave/api.Map]"], unfollowed := true, recurses := true, apart := false }
def BookDoesSaid : Prop := bookDoesRow.holds Try.pinned (OpenSpec.ofChange bookDoesSpec)

/-- ITS FALSE NEIGHBOUR: 'it returns false'. Refute it at one input. -/
def bookDoesWrong : ChangeSpec := { name := "bookDoes", fn := fun _ => fun
  | [d] => { results := [.lit (.bool false)], args := [d] }
  | _ => none }
def BookDoesWrongFalsely : Prop := bookDoesRow.holds Try.pinned (OpenSpec.ofChange bookDoesWrong)

/-- 'wayleavelaw.WalkerDoes': WHATEVER THE INPUT: true; the input reads as it did. -/
def walkerDoesSpec : ChangeSpec := { name := "walkerDoes", fn := fun _ => fun
  | [d1, d2, d3, d4, d5] => { results := [.lit (.bool true)], args := [d1, d2, d3, d4, d5] }
  | _ => none }
def walkerDoesRow : OpenClaim := { program := "ytacnjjjdkpbeaaa", sum := "9db0c2f9b9d3ebc1904faa57b3ebdf61a7b3941451a334c0bb8af7b9b403bc09", func := "wayleave/wayleavelaw.WalkerDoes", spec := "walkerDoes", unfollowed := true, recurses := true, apart := false }
def WalkerDoesSaid : Prop := walkerDoesRow.holds Try.pinned (OpenSpec.ofChange walkerDoesSpec)

/-- ITS FALSE NEIGHBOUR: 'it returns false'. Refute it at one input. -/
def walkerDoesWrong : ChangeSpec := { name := "walkerDoes", fn := fun _ => fun
  | [d1, d2, d3, d4, d5] => { results := [.lit (.bool false)], args := [d1, d2, d3, d4, d5] }
  | _ => none }
def WalkerDoesWrongFalsely : Prop := walkerDoesRow.holds Try.pinned (OpenSpec.ofChange walkerDoesWrong)

/-- 'wayleavelaw.WalkerSame': WHATEVER THE INPUT: true; the input reads as it did. -/
def walkerSameSpec : ChangeSpec := { name := "walkerSame", fn := fun _ => fun
  | [d1, d2, d3, d4] => { results := [.lit (.bool true)], args := [d1, d2, d3, d4] }
  | _ => none }
def walkerSameRow : OpenClaim := { program := "ytacnjjjdkpbeaaa", sum := "9db0c2f9b9d3ebc1904faa57b3ebdf61a7b3941451a334c0bb8af7b9b403bc09", func := "wayleave/wayleavelaw.WalkerSame", spec := "walkerSame", unfollowed := true, recurses := true, apart := false }
def WalkerSameSaid : Prop := walkerSameRow.holds Try.pinned (OpenSpec.ofChange walkerSameSpec)

/-- ITS FALSE NEIGHBOUR: 'it returns false'. Refute it at one input. -/
def walkerSameWrong : ChangeSpec := { name := "walkerSame", fn := fun _ => fun
  | [d1, d2, d3, d4] => { results := [.lit (.bool false)], args := [d1, d2, d3, d4] }
  | _ => none }
def WalkerSameWrongFalsely : Prop := walkerSameRow.holds Try.pinned (OpenSpec.ofChange walkerSameWrong)

/- THE SECOND FORM. 'bulk': how many values and letters a reading holds, each counted each time it is reached (what is shared counts as often as it is met; a slice's spare places count too). A statement '..UptoSaid' is the law's where the arguments, and the package variables that the reading takes, are together of bulk at most 1048576: NARROWER than '..Said'. Prove '..Said' where nothing that the law and all that it calls make is longer than what came in: it says more and counts as full. Else prove '..UptoSaid'. A law counts once. -/
mutual
def uptoBulk {H : Type} : DataW H → Nat
  | .lit (.string bytes) => bytes.length + 1
  | .lit _ => 1
  | .nil => 1
  | .ptr d => uptoBulk d + 1
  | .slice elems spare => uptoBulkAll elems + uptoBulkAll spare + 1
  | .agg parts => uptoBulkAll parts + 1
  | .iface _ d => uptoBulk d + 1
  | .map entries => uptoBulkEntries entries + 1
  | .held _ => 1
def uptoBulkAll {H : Type} : List (DataW H) → Nat
  | [] => 0
  | d :: r => uptoBulk d + uptoBulkAll r
def uptoBulkEntries {H : Type} : List (Lit × DataW H) → Nat
  | [] => 0
  | x :: r => uptoBulkEntry x + uptoBulkEntries r
def uptoBulkEntry {H : Type} : Lit × DataW H → Nat
  | (.string bytes, d) => bytes.length + uptoBulk d + 1
  | (_, d) => uptoBulk d + 1
 end
def uptoSmall : (H : Type) → List (DataW H) → Bool := fun _ ds => decide (uptoBulkAll ds ≤ 1048576)
def OpenSpec.upto (s : _root_.Go.ChangeSpec) : _root_.Go.OpenSpec := { _root_.Go.OpenSpec.ofChange s with cond := some uptoSmall }

/-- 'wayleavelaw.TlbDoes', WHERE WHAT IT READS IS OF BULK AT MOST 1048576: true; the input reads as it did. -/
def tlbDoesUptoRow : OpenClaim := { program := "ytacnjjjdkpbeaaa", sum := "9db0c2f9b9d3ebc1904faa57b3ebdf61a7b3941451a334c0bb8af7b9b403bc09", func := "wayleave/wayleavelaw.TlbDoes", spec := "tlbDoes", unfollowed := true, recurses := true, apart := false, narrowed := true }
def TlbDoesUptoSaid : Prop := tlbDoesUptoRow.holds Try.pinned (OpenSpec.upto tlbDoesSpec)

/-- 'wayleavelaw.TlbApart', WHERE WHAT IT READS IS OF BULK AT MOST 1048576: true; the input reads as it did. -/
def tlbApartUptoRow : OpenClaim := { program := "ytacnjjjdkpbeaaa", sum := "9db0c2f9b9d3ebc1904faa57b3ebdf61a7b3941451a334c0bb8af7b9b403bc09", func := "wayleave/wayleavelaw.TlbApart", spec := "tlbApart", unfollowed := true, recurses := true, apart := false, narrowed := true }
def TlbApartUptoSaid : Prop := tlbApartUptoRow.holds Try.pinned (OpenSpec.upto tlbApartSpec)

/-- 'wayleavelaw.TlbLatest', WHERE WHAT IT READS IS OF BULK AT MOST 1048576: true; the input reads as it did. -/
def tlbLatestUptoRow : OpenClaim := { program := "ytacnjjjdkpbeaaa", sum := "9db0c2f9b9d3ebc1904faa57b3ebdf61a7b3941451a334c0bb8af7b9b403bc09", func := "wayleave/wayleavelaw.TlbLatest", spec := "tlbLatest", unfollowed := true, recurses := true, apart := false, narrowed := true }
def TlbLatestUptoSaid : Prop := tlbLatestUptoRow.holds Try.pinned (OpenSpec.upto tlbLatestSpec)

/-- 'wayleavelaw.WalkDoes', WHERE WHAT IT READS IS OF BULK AT MOST 1048576: true; the input reads as it did. -/
def walkDoesUptoRow : OpenClaim := { program := "ytacnjjjdkpbeaaa", sum := "9db0c2f9b9d3ebc1904faa57b3ebdf61a7b3941451a334c0bb8af7b9b403bc09", func := "wayleave/wayleavelaw.WalkDoes", spec := "walkDoes", unfollowed := true, recurses := true, apart := false, narrowed := true }
def WalkDoesUptoSaid : Prop := walkDoesUptoRow.holds Try.pinned (OpenSpec.upto walkDoesSpec)

/-- 'wayleavelaw.WalkList', WHERE WHAT IT READS IS OF BULK AT MOST 1048576: true; the input reads as it did. -/
def walkListUptoRow : OpenClaim := { program := "ytacnjjjdkpbeaaa", sum := "9db0c2f9b9d3ebc1904faa57b3ebdf61a7b3941451a334c0bb8af7b9b403bc09", func := "wayleave/wayleavelaw.WalkList", spec := "walkList", unfollowed := true, recurses := true, apart := false, narrowed := true }
def WalkListUptoSaid : Prop := walkListUptoRow.holds Try.pinned (OpenSpec.upto walkListSpec)

/-- 'wayleavelaw.BookTurns', WHERE WHAT IT READS IS OF BULK AT MOST 1048576: true; the input reads as it did. -/
def bookTurnsUptoRow : OpenClaim := { program := "ytacnjjjdkpbeaaa", sum := "9db0c2f9b9d3ebc1904faa57b3ebdf61a7b3941451a334c0bb8af7b9b403bc09", func := "wayleave/wayleavelaw.BookTurns", spec := "bookTurns", inPlace := ["slices.overlaps[wayleave/api.Map]"], unfollowed := true, recurses := true, apart := false, narrowed := true }
def BookTurnsUptoSaid : Prop := bookTurnsUptoRow.holds Try.pinned (OpenSpec.upto bookTurnsSpec)

/-- 'wayleavelaw.WalkerEnds', WHERE WHAT IT READS IS OF BULK AT MOST 1048576: true; the input reads as it did. -/
def walkerEndsUptoRow : OpenClaim := { program := "ytacnjjjdkpbeaaa", sum := "9db0c2f9b9d3ebc1904faa57b3ebdf61a7b3941451a334c0bb8af7b9b403bc09", func := "wayleave/wayleavelaw.WalkerEnds", spec := "walkerEnds", unfollowed := true, recurses := true, apart := false, narrowed := true }
def WalkerEndsUptoSaid : Prop := walkerEndsUptoRow.holds Try.pinned (OpenSpec.upto walkerEndsSpec)

/-- 'wayleavelaw.BookApart', WHERE WHAT IT READS IS OF BULK AT MOST 1048576: true; the input reads as it did. -/
def bookApartUptoRow : OpenClaim := { program := "ytacnjjjdkpbeaaa", sum := "9db0c2f9b9d3ebc1904faa57b3ebdf61a7b3941451a334c0bb8af7b9b403bc09", func := "wayleave/wayleavelaw.BookApart", spec := "bookApart", inPlace := ["slices.overlaps[wayleave/api.Map]"], unfollowed := true, recurses := true, apart := false, narrowed := true }
def BookApartUptoSaid : Prop := bookApartUptoRow.holds Try.pinned (OpenSpec.upto bookApartSpec)

/-- 'wayleavelaw.BookDoes', WHERE WHAT IT READS IS OF BULK AT MOST 1048576: true; the input reads as it did. -/
def bookDoesUptoRow : OpenClaim := { program := "ytacnjjjdkpbeaaa", sum := "9db0c2f9b9d3ebc1904faa57b3ebdf61a7b3941451a334c0bb8af7b9b403bc09", func := "wayleave/wayleavelaw.BookDoes", spec := "bookDoes", inPlace := ["slices.overlaps[wayleave/api.Map]"], unfollowed := true, recurses := true, apart := false, narrowed := true }
def BookDoesUptoSaid : Prop := bookDoesUptoRow.holds Try.pinned (OpenSpec.upto bookDoesSpec)

/-- 'wayleavelaw.WalkerDoes', WHERE WHAT IT READS IS OF BULK AT MOST 1048576: true; the input reads as it did. -/
def walkerDoesUptoRow : OpenClaim := { program := "ytacnjjjdkpbeaaa", sum := "9db0c2f9b9d3ebc1904faa57b3ebdf61a7b3941451a334c0bb8af7b9b403bc09", func := "wayleave/wayleavelaw.WalkerDoes", spec := "walkerDoes", unfollowed := true, recurses := true, apart := false, narrowed := true }
def WalkerDoesUptoSaid : Prop := walkerDoesUptoRow.holds Try.pinned (OpenSpec.upto walkerDoesSpec)

/-- 'wayleavelaw.WalkerSame', WHERE WHAT IT READS IS OF BULK AT MOST 1048576: true; the input reads as it did. -/
def walkerSameUptoRow : OpenClaim := { program := "ytacnjjjdkpbeaaa", sum := "9db0c2f9b9d3ebc1904faa57b3ebdf61a7b3941451a334c0bb8af7b9b403bc09", func := "wayleave/wayleavelaw.WalkerSame", spec := "walkerSame", unfollowed := true, recurses := true, apart := false, narrowed := true }
def WalkerSameUptoSaid : Prop := walkerSameUptoRow.holds Try.pinned (OpenSpec.upto walkerSameSpec)

end Rows
end Go.Proofs.Ytacnjjjdkpbeaaa
