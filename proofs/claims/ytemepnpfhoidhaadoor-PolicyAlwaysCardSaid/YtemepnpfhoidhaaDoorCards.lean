/-
  DERIVED. GIVEN WITH THE SEED: THE CARDS: each row of YtemepnpfhoidhaaDoorRows.lean that lists a variable, with what it lists TIED to the program's text (the seventh form; the later family's looks); each row that meets fmt, with fmt's text TOLD by the authors' own Lean function (tested against real Go, not proved from fmt's source: count such statements apart). THE CARD IS WHAT COUNTS. Prove the row's statement (the work); the ties are given (YtemepnpfhoidhaaDoorTie.lean); close each card by the builder's one call (the guide's Derived/Test/ToyasCard.lean, 'card_holds'). Laid BY PROGRAM, IN A SANDBOX (cutbox-door.mjs). By AI agents, Wed Nov 11 2026. No macro, syntax, notation, axiom, sorry.
-/
import Derived.Test.YtemepnpfhoidhaaDoorRows
import GoSem.ClaimSeven
namespace Go.Proofs.YtemepnpfhoidhaaDoor
namespace Rows

/-- THE TIED CARD OF 'winnowlaw04.PolicyMixes'. -/
def policyMixesCard : Claim7 := { stood := { row := policyMixesRow, standIns := [], harness := (true, "1c086460a59f7b2706a94f64308489b551c555721c7d26f38fe65bb9a32ec1f4"), looks := true }, kinds := [], alts := [], laidByText := true, laidKinds := [.data, .data, .data, .data, .sentinel, .sentinel, .pinned], laidTests := true, laidLooks := .later }
def PolicyMixesCardSaid : Prop := Claim7.holds Tryd.pinned (.plain (OpenSpec.ofChange policyMixesSpec)) policyMixesCard

/-- THE TIED CARD OF 'winnowlaw04.PolicyMatches'. -/
def policyMatchesCard : Claim7 := { stood := { row := policyMatchesRow, standIns := [], harness := (true, "1c086460a59f7b2706a94f64308489b551c555721c7d26f38fe65bb9a32ec1f4"), looks := true }, kinds := [], alts := [], laidByText := true, laidKinds := [.data, .data, .data, .data, .sentinel, .sentinel, .pinned], laidTests := true, laidLooks := .later }
def PolicyMatchesCardSaid : Prop := Claim7.holds Tryd.pinned (.plain (OpenSpec.ofChange policyMatchesSpec)) policyMatchesCard

/-- THE TIED CARD OF 'winnowlaw04.PolicyEvals'. -/
def policyEvalsCard : Claim7 := { stood := { row := policyEvalsRow, standIns := [], harness := (true, "1c086460a59f7b2706a94f64308489b551c555721c7d26f38fe65bb9a32ec1f4"), looks := true }, kinds := [], alts := [], laidByText := true, laidKinds := [.data, .data, .data, .data, .sentinel, .sentinel, .pinned], laidTests := true, laidLooks := .later }
def PolicyEvalsCardSaid : Prop := Claim7.holds Tryd.pinned (.plain (OpenSpec.ofChange policyEvalsSpec)) policyEvalsCard

/-- THE TIED CARD OF 'winnowlaw04.PolicyOrder'. -/
def policyOrderCard : Claim7 := { stood := { row := policyOrderRow, standIns := [], harness := (true, "1c086460a59f7b2706a94f64308489b551c555721c7d26f38fe65bb9a32ec1f4"), looks := true }, kinds := [], alts := [], laidByText := true, laidKinds := [.data, .data, .data, .data, .sentinel, .sentinel, .pinned], laidTests := true, laidLooks := .later }
def PolicyOrderCardSaid : Prop := Claim7.holds Tryd.pinned (.plain (OpenSpec.ofChange policyOrderSpec)) policyOrderCard

/-- THE TIED CARD OF 'winnowlaw04.PolicyMixed'. -/
def policyMixedCard : Claim7 := { stood := { row := policyMixedRow, standIns := [], harness := (true, "1c086460a59f7b2706a94f64308489b551c555721c7d26f38fe65bb9a32ec1f4"), looks := true }, kinds := [], alts := [], laidByText := true, laidKinds := [.data, .data, .data, .data, .sentinel, .sentinel, .pinned], laidTests := true, laidLooks := .later }
def PolicyMixedCardSaid : Prop := Claim7.holds Tryd.pinned (.plain (OpenSpec.ofChange policyMixedSpec)) policyMixedCard

/-- THE TIED CARD OF 'winnowlaw04.PolicyMore'. -/
def policyMoreCard : Claim7 := { stood := { row := policyMoreRow, standIns := [], harness := (true, "1c086460a59f7b2706a94f64308489b551c555721c7d26f38fe65bb9a32ec1f4"), looks := true }, kinds := [], alts := [], laidByText := true, laidKinds := [.data, .data, .data, .data, .sentinel, .sentinel, .pinned], laidTests := true, laidLooks := .later }
def PolicyMoreCardSaid : Prop := Claim7.holds Tryd.pinned (.plain (OpenSpec.ofChange policyMoreSpec)) policyMoreCard

/-- THE TIED CARD OF 'winnowlaw04.PolicyStars'. -/
def policyStarsCard : Claim7 := { stood := { row := policyStarsRow, standIns := [], harness := (true, "1c086460a59f7b2706a94f64308489b551c555721c7d26f38fe65bb9a32ec1f4"), looks := true }, kinds := [], alts := [], laidByText := true, laidKinds := [.data, .data, .data, .data, .sentinel, .sentinel, .pinned], laidTests := true, laidLooks := .later }
def PolicyStarsCardSaid : Prop := Claim7.holds Tryd.pinned (.plain (OpenSpec.ofChange policyStarsSpec)) policyStarsCard

/-- THE TIED CARD OF 'winnowlaw04.PolicyAlways'. -/
def policyAlwaysCard : Claim7 := { stood := { row := policyAlwaysRow, standIns := [], harness := (true, "1c086460a59f7b2706a94f64308489b551c555721c7d26f38fe65bb9a32ec1f4"), looks := true }, kinds := [], alts := [], laidByText := true, laidKinds := [.data, .data, .data, .data, .sentinel, .sentinel, .pinned], laidTests := true, laidLooks := .later }
def PolicyAlwaysCardSaid : Prop := Claim7.holds Tryd.pinned (.plain (OpenSpec.ofChange policyAlwaysSpec)) policyAlwaysCard

/-- THE SECOND FORM's CARD OF 'winnowlaw04.PolicyMixes'. -/
def policyMixesUptoCard : Claim7 := { stood := { row := policyMixesUptoRow, standIns := [], harness := (true, "1c086460a59f7b2706a94f64308489b551c555721c7d26f38fe65bb9a32ec1f4"), looks := true }, kinds := [], alts := [], laidByText := true, laidKinds := [.data, .data, .data, .data, .sentinel, .sentinel, .pinned], laidTests := true, laidLooks := .later }
def PolicyMixesUptoCardSaid : Prop := Claim7.holds Tryd.pinned (.plain (OpenSpec.upto policyMixesSpec)) policyMixesUptoCard

/-- THE SECOND FORM's CARD OF 'winnowlaw04.PolicyMatches'. -/
def policyMatchesUptoCard : Claim7 := { stood := { row := policyMatchesUptoRow, standIns := [], harness := (true, "1c086460a59f7b2706a94f64308489b551c555721c7d26f38fe65bb9a32ec1f4"), looks := true }, kinds := [], alts := [], laidByText := true, laidKinds := [.data, .data, .data, .data, .sentinel, .sentinel, .pinned], laidTests := true, laidLooks := .later }
def PolicyMatchesUptoCardSaid : Prop := Claim7.holds Tryd.pinned (.plain (OpenSpec.upto policyMatchesSpec)) policyMatchesUptoCard

/-- THE SECOND FORM's CARD OF 'winnowlaw04.PolicyEvals'. -/
def policyEvalsUptoCard : Claim7 := { stood := { row := policyEvalsUptoRow, standIns := [], harness := (true, "1c086460a59f7b2706a94f64308489b551c555721c7d26f38fe65bb9a32ec1f4"), looks := true }, kinds := [], alts := [], laidByText := true, laidKinds := [.data, .data, .data, .data, .sentinel, .sentinel, .pinned], laidTests := true, laidLooks := .later }
def PolicyEvalsUptoCardSaid : Prop := Claim7.holds Tryd.pinned (.plain (OpenSpec.upto policyEvalsSpec)) policyEvalsUptoCard

/-- THE SECOND FORM's CARD OF 'winnowlaw04.PolicyOrder'. -/
def policyOrderUptoCard : Claim7 := { stood := { row := policyOrderUptoRow, standIns := [], harness := (true, "1c086460a59f7b2706a94f64308489b551c555721c7d26f38fe65bb9a32ec1f4"), looks := true }, kinds := [], alts := [], laidByText := true, laidKinds := [.data, .data, .data, .data, .sentinel, .sentinel, .pinned], laidTests := true, laidLooks := .later }
def PolicyOrderUptoCardSaid : Prop := Claim7.holds Tryd.pinned (.plain (OpenSpec.upto policyOrderSpec)) policyOrderUptoCard

/-- THE SECOND FORM's CARD OF 'winnowlaw04.PolicyMixed'. -/
def policyMixedUptoCard : Claim7 := { stood := { row := policyMixedUptoRow, standIns := [], harness := (true, "1c086460a59f7b2706a94f64308489b551c555721c7d26f38fe65bb9a32ec1f4"), looks := true }, kinds := [], alts := [], laidByText := true, laidKinds := [.data, .data, .data, .data, .sentinel, .sentinel, .pinned], laidTests := true, laidLooks := .later }
def PolicyMixedUptoCardSaid : Prop := Claim7.holds Tryd.pinned (.plain (OpenSpec.upto policyMixedSpec)) policyMixedUptoCard

/-- THE SECOND FORM's CARD OF 'winnowlaw04.PolicyMore'. -/
def policyMoreUptoCard : Claim7 := { stood := { row := policyMoreUptoRow, standIns := [], harness := (true, "1c086460a59f7b2706a94f64308489b551c555721c7d26f38fe65bb9a32ec1f4"), looks := true }, kinds := [], alts := [], laidByText := true, laidKinds := [.data, .data, .data, .data, .sentinel, .sentinel, .pinned], laidTests := true, laidLooks := .later }
def PolicyMoreUptoCardSaid : Prop := Claim7.holds Tryd.pinned (.plain (OpenSpec.upto policyMoreSpec)) policyMoreUptoCard

/-- THE SECOND FORM's CARD OF 'winnowlaw04.PolicyStars'. -/
def policyStarsUptoCard : Claim7 := { stood := { row := policyStarsUptoRow, standIns := [], harness := (true, "1c086460a59f7b2706a94f64308489b551c555721c7d26f38fe65bb9a32ec1f4"), looks := true }, kinds := [], alts := [], laidByText := true, laidKinds := [.data, .data, .data, .data, .sentinel, .sentinel, .pinned], laidTests := true, laidLooks := .later }
def PolicyStarsUptoCardSaid : Prop := Claim7.holds Tryd.pinned (.plain (OpenSpec.upto policyStarsSpec)) policyStarsUptoCard

/-- THE SECOND FORM's CARD OF 'winnowlaw04.PolicyAlways'. -/
def policyAlwaysUptoCard : Claim7 := { stood := { row := policyAlwaysUptoRow, standIns := [], harness := (true, "1c086460a59f7b2706a94f64308489b551c555721c7d26f38fe65bb9a32ec1f4"), looks := true }, kinds := [], alts := [], laidByText := true, laidKinds := [.data, .data, .data, .data, .sentinel, .sentinel, .pinned], laidTests := true, laidLooks := .later }
def PolicyAlwaysUptoCardSaid : Prop := Claim7.holds Tryd.pinned (.plain (OpenSpec.upto policyAlwaysSpec)) policyAlwaysUptoCard
end Rows
end Go.Proofs.YtemepnpfhoidhaaDoor
