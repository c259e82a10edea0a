/-
  DERIVED. GIVEN WITH THE SEED: THE CARDS: each row of YtmnjaihalajhcaaDoorRows.lean that lists a variable, with what it lists TIED to the program's text (the seventh form; the later family's looks); each row that meets fmt, with fmt's text TOLD by the authors' own Lean function (tested against real Go, not proved from fmt's source: count such statements apart). THE CARD IS WHAT COUNTS. Prove the row's statement (the work); the ties are given (YtmnjaihalajhcaaDoorTie.lean); close each card by the builder's one call (the guide's Derived/Test/ToyasCard.lean, 'card_holds'). Laid BY PROGRAM, IN A SANDBOX (cutbox-door.mjs). By AI agents, Wed Nov 11 2026. No macro, syntax, notation, axiom, sorry.
-/
import Derived.Test.YtmnjaihalajhcaaDoorRows
import GoSem.ClaimSeven
namespace Go.Proofs.YtmnjaihalajhcaaDoor
namespace Rows

/-- THE TIED CARD OF 'weathercocklaw17.PlanConds'. -/
def planCondsCard : Claim7 := { stood := { row := planCondsRow, standIns := [], harness := (true, "6c223cb696f5997a5034544d5be8e5096e5804001ffc80619c705f69a4ce1e2a"), looks := false }, kinds := [], alts := [], laidByText := true, laidKinds := [.data, .data, .data], laidTests := true, laidLooks := .later }
def PlanCondsCardSaid : Prop := Claim7.holds Tryd.pinned (.plain (OpenSpec.ofChange planCondsSpec)) planCondsCard

/-- THE TIED CARD OF 'weathercocklaw17.PlanParts'. -/
def planPartsCard : Claim7 := { stood := { row := planPartsRow, standIns := [], harness := (true, "6c223cb696f5997a5034544d5be8e5096e5804001ffc80619c705f69a4ce1e2a"), looks := false }, kinds := [], alts := [], laidByText := true, laidKinds := [.data, .data, .data], laidTests := true, laidLooks := .later }
def PlanPartsCardSaid : Prop := Claim7.holds Tryd.pinned (.plain (OpenSpec.ofChange planPartsSpec)) planPartsCard

/-- THE TIED CARD OF 'weathercocklaw17.PlanTexts'. -/
def planTextsCard : Claim7 := { stood := { row := planTextsRow, standIns := [], harness := (true, "6c223cb696f5997a5034544d5be8e5096e5804001ffc80619c705f69a4ce1e2a"), looks := false }, kinds := [], alts := [], laidByText := true, laidKinds := [.data, .data, .data], laidTests := true, laidLooks := .later }
def PlanTextsCardSaid : Prop := Claim7.holds Tryd.pinned (.plain (OpenSpec.ofChange planTextsSpec)) planTextsCard

/-- THE TIED CARD OF 'weathercocklaw17.PlanJoins'. -/
def planJoinsCard : Claim7 := { stood := { row := planJoinsRow, standIns := [], harness := (true, "6c223cb696f5997a5034544d5be8e5096e5804001ffc80619c705f69a4ce1e2a"), looks := false }, kinds := [], alts := [], laidByText := true, laidKinds := [.data, .data, .data], laidTests := true, laidLooks := .later }
def PlanJoinsCardSaid : Prop := Claim7.holds Tryd.pinned (.plain (OpenSpec.ofChange planJoinsSpec)) planJoinsCard

/-- THE TIED CARD OF 'weathercocklaw17.PlanSpoils'. -/
def planSpoilsCard : Claim7 := { stood := { row := planSpoilsRow, standIns := [], harness := (true, "6c223cb696f5997a5034544d5be8e5096e5804001ffc80619c705f69a4ce1e2a"), looks := false }, kinds := [], alts := [], laidByText := true, laidKinds := [.data, .data, .data], laidTests := true, laidLooks := .later }
def PlanSpoilsCardSaid : Prop := Claim7.holds Tryd.pinned (.plain (OpenSpec.ofChange planSpoilsSpec)) planSpoilsCard

/-- THE TIED CARD OF 'weathercocklaw17.PlanCosts'. -/
def planCostsCard : Claim7 := { stood := { row := planCostsRow, standIns := [], harness := (true, "6c223cb696f5997a5034544d5be8e5096e5804001ffc80619c705f69a4ce1e2a"), looks := false }, kinds := [], alts := [], laidByText := true, laidKinds := [.data, .data, .data], laidTests := true, laidLooks := .later }
def PlanCostsCardSaid : Prop := Claim7.holds Tryd.pinned (.plain (OpenSpec.ofChange planCostsSpec)) planCostsCard

/-- THE SECOND FORM's CARD OF 'weathercocklaw17.PlanConds'. -/
def planCondsUptoCard : Claim7 := { stood := { row := planCondsUptoRow, standIns := [], harness := (true, "6c223cb696f5997a5034544d5be8e5096e5804001ffc80619c705f69a4ce1e2a"), looks := false }, kinds := [], alts := [], laidByText := true, laidKinds := [.data, .data, .data], laidTests := true, laidLooks := .later }
def PlanCondsUptoCardSaid : Prop := Claim7.holds Tryd.pinned (.plain (OpenSpec.upto planCondsSpec)) planCondsUptoCard

/-- THE SECOND FORM's CARD OF 'weathercocklaw17.PlanParts'. -/
def planPartsUptoCard : Claim7 := { stood := { row := planPartsUptoRow, standIns := [], harness := (true, "6c223cb696f5997a5034544d5be8e5096e5804001ffc80619c705f69a4ce1e2a"), looks := false }, kinds := [], alts := [], laidByText := true, laidKinds := [.data, .data, .data], laidTests := true, laidLooks := .later }
def PlanPartsUptoCardSaid : Prop := Claim7.holds Tryd.pinned (.plain (OpenSpec.upto planPartsSpec)) planPartsUptoCard

/-- THE SECOND FORM's CARD OF 'weathercocklaw17.PlanTexts'. -/
def planTextsUptoCard : Claim7 := { stood := { row := planTextsUptoRow, standIns := [], harness := (true, "6c223cb696f5997a5034544d5be8e5096e5804001ffc80619c705f69a4ce1e2a"), looks := false }, kinds := [], alts := [], laidByText := true, laidKinds := [.data, .data, .data], laidTests := true, laidLooks := .later }
def PlanTextsUptoCardSaid : Prop := Claim7.holds Tryd.pinned (.plain (OpenSpec.upto planTextsSpec)) planTextsUptoCard

/-- THE SECOND FORM's CARD OF 'weathercocklaw17.PlanJoins'. -/
def planJoinsUptoCard : Claim7 := { stood := { row := planJoinsUptoRow, standIns := [], harness := (true, "6c223cb696f5997a5034544d5be8e5096e5804001ffc80619c705f69a4ce1e2a"), looks := false }, kinds := [], alts := [], laidByText := true, laidKinds := [.data, .data, .data], laidTests := true, laidLooks := .later }
def PlanJoinsUptoCardSaid : Prop := Claim7.holds Tryd.pinned (.plain (OpenSpec.upto planJoinsSpec)) planJoinsUptoCard

/-- THE SECOND FORM's CARD OF 'weathercocklaw17.PlanSpoils'. -/
def planSpoilsUptoCard : Claim7 := { stood := { row := planSpoilsUptoRow, standIns := [], harness := (true, "6c223cb696f5997a5034544d5be8e5096e5804001ffc80619c705f69a4ce1e2a"), looks := false }, kinds := [], alts := [], laidByText := true, laidKinds := [.data, .data, .data], laidTests := true, laidLooks := .later }
def PlanSpoilsUptoCardSaid : Prop := Claim7.holds Tryd.pinned (.plain (OpenSpec.upto planSpoilsSpec)) planSpoilsUptoCard

/-- THE SECOND FORM's CARD OF 'weathercocklaw17.PlanCosts'. -/
def planCostsUptoCard : Claim7 := { stood := { row := planCostsUptoRow, standIns := [], harness := (true, "6c223cb696f5997a5034544d5be8e5096e5804001ffc80619c705f69a4ce1e2a"), looks := false }, kinds := [], alts := [], laidByText := true, laidKinds := [.data, .data, .data], laidTests := true, laidLooks := .later }
def PlanCostsUptoCardSaid : Prop := Claim7.holds Tryd.pinned (.plain (OpenSpec.upto planCostsSpec)) planCostsUptoCard
end Rows
end Go.Proofs.YtmnjaihalajhcaaDoor
