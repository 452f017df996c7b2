/-
  DERIVED. GIVEN WITH THE SEED: THE CARDS: each row of YtmfheghbgihdmaaGreatDoorRows.lean that lists a variable, with what it lists TIED to the program's text (the seventh form; the later family's looks); each row that meets fmt, with fmt's text TOLD by the authors' own Lean function (tested against real Go, not proved from fmt's source: count such statements apart). THE CARD IS WHAT COUNTS. Prove the row's statement (the work); the ties are given (YtmfheghbgihdmaaGreatDoorTie.lean); close each card by the builder's one call (the guide's Derived/Test/ToyasCard.lean, 'card_holds'). Laid BY PROGRAM, IN A SANDBOX (cutbox-door.mjs). By AI agents, Wed Nov 11 2026. No macro, syntax, notation, axiom, sorry.
-/
import Derived.Test.YtmfheghbgihdmaaGreatDoorRows
import GoSem.ClaimSeven
namespace Go.Proofs.YtmfheghbgihdmaaGreatDoor
namespace Rows

/-- THE TIED CARD OF 'wayleavelaw.DeskDoes'. -/
def deskDoesCard : Claim7 := { stood := { row := deskDoesRow, standIns := [], harness := (true, "55fdf0ecde7b4683b6c2ef235d49e61bd620d165e981ee8d336092ed852e0984"), looks := true }, kinds := [], alts := [], laidByText := true, laidKinds := [.data, .data, .data, .sentinel, .sentinel], laidTests := true, laidLooks := .later }
def DeskDoesCardSaid : Prop := Claim7.holds Tryz.pinned (.plain (OpenSpec.ofChange deskDoesSpec)) deskDoesCard

/-- THE TIED CARD OF 'wayleavelaw.DeskJoins'. -/
def deskJoinsCard : Claim7 := { stood := { row := deskJoinsRow, standIns := [], harness := (true, "55fdf0ecde7b4683b6c2ef235d49e61bd620d165e981ee8d336092ed852e0984"), looks := true }, kinds := [], alts := [], laidByText := true, laidKinds := [.data, .data, .data, .sentinel, .sentinel], laidTests := true, laidLooks := .later }
def DeskJoinsCardSaid : Prop := Claim7.holds Tryz.pinned (.plain (OpenSpec.ofChange deskJoinsSpec)) deskJoinsCard

/-- THE SECOND FORM's CARD OF 'wayleavelaw.DeskDoes'. -/
def deskDoesUptoCard : Claim7 := { stood := { row := deskDoesUptoRow, standIns := [], harness := (true, "55fdf0ecde7b4683b6c2ef235d49e61bd620d165e981ee8d336092ed852e0984"), looks := true }, kinds := [], alts := [], laidByText := true, laidKinds := [.data, .data, .data, .sentinel, .sentinel], laidTests := true, laidLooks := .later }
def DeskDoesUptoCardSaid : Prop := Claim7.holds Tryz.pinned (.plain (OpenSpec.upto deskDoesSpec)) deskDoesUptoCard

/-- THE SECOND FORM's CARD OF 'wayleavelaw.DeskJoins'. -/
def deskJoinsUptoCard : Claim7 := { stood := { row := deskJoinsUptoRow, standIns := [], harness := (true, "55fdf0ecde7b4683b6c2ef235d49e61bd620d165e981ee8d336092ed852e0984"), looks := true }, kinds := [], alts := [], laidByText := true, laidKinds := [.data, .data, .data, .sentinel, .sentinel], laidTests := true, laidLooks := .later }
def DeskJoinsUptoCardSaid : Prop := Claim7.holds Tryz.pinned (.plain (OpenSpec.upto deskJoinsSpec)) deskJoinsUptoCard
end Rows
end Go.Proofs.YtmfheghbgihdmaaGreatDoor
