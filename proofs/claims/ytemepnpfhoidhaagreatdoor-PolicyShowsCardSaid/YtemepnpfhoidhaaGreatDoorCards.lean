/-
  DERIVED. GIVEN WITH THE SEED: THE CARDS: each row of YtemepnpfhoidhaaGreatDoorRows.lean that lists a variable, with what it lists TIED to the program's text (the seventh form; the later family's looks); each row that meets fmt, with fmt's text TOLD by the authors' own Lean function (tested against real Go, not proved from fmt's source: count such statements apart). THE CARD IS WHAT COUNTS. Prove the row's statement (the work); the ties are given (YtemepnpfhoidhaaGreatDoorTie.lean); close each card by the builder's one call (the guide's Derived/Test/ToyasCard.lean, 'card_holds'). Laid BY PROGRAM, IN A SANDBOX (cutbox-door.mjs). By AI agents, Wed Nov 11 2026. No macro, syntax, notation, axiom, sorry.
-/
import Derived.Test.YtemepnpfhoidhaaGreatDoorRows
import GoSem.ClaimSeven
namespace Go.Proofs.YtemepnpfhoidhaaGreatDoor
namespace Rows

/-- THE TIED CARD OF 'winnowlaw04.PolicyShows'. -/
def policyShowsCard : Claim7 := { stood := { row := policyShowsRow, standIns := [], harness := (true, "9304340591d0eb6cc6cdc1105d2ad4d7b89b6dace3e663c7db441e224918f17c"), looks := true }, kinds := [], alts := [], laidByText := true, laidKinds := [.data, .data, .data, .data, .sentinel, .sentinel, .pinned], laidTests := true, laidLooks := .later }
def PolicyShowsCardSaid : Prop := Claim7.holds Tryz.pinned (.plain (OpenSpec.ofChange policyShowsSpec)) policyShowsCard

/-- THE SECOND FORM's CARD OF 'winnowlaw04.PolicyShows'. -/
def policyShowsUptoCard : Claim7 := { stood := { row := policyShowsUptoRow, standIns := [], harness := (true, "9304340591d0eb6cc6cdc1105d2ad4d7b89b6dace3e663c7db441e224918f17c"), looks := true }, kinds := [], alts := [], laidByText := true, laidKinds := [.data, .data, .data, .data, .sentinel, .sentinel, .pinned], laidTests := true, laidLooks := .later }
def PolicyShowsUptoCardSaid : Prop := Claim7.holds Tryz.pinned (.plain (OpenSpec.upto policyShowsSpec)) policyShowsUptoCard
end Rows
end Go.Proofs.YtemepnpfhoidhaaGreatDoor
