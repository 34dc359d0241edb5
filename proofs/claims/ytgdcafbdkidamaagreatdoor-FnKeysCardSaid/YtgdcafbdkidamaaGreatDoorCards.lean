/-
  DERIVED. GIVEN WITH THE SEED: THE CARDS: each row of YtgdcafbdkidamaaGreatDoorRows.lean that lists a variable, with what it lists TIED to the program's text (the seventh form; the later family's looks); each row that meets fmt, with fmt's text TOLD by the authors' own Lean function (tested against real Go, not proved from fmt's source: count such statements apart). THE CARD IS WHAT COUNTS. Prove the row's statement (the work); the ties are given (YtgdcafbdkidamaaGreatDoorTie.lean); close each card by the builder's one call (the guide's Derived/Test/ToyasCard.lean, 'card_holds'). Laid BY PROGRAM, IN A SANDBOX (cutbox-door.mjs). By AI agents, Wed Nov 11 2026. No macro, syntax, notation, axiom, sorry.
-/
import Derived.Test.YtgdcafbdkidamaaGreatDoorRows
import GoSem.ClaimSeven
namespace Go.Proofs.YtgdcafbdkidamaaGreatDoor
namespace Rows

/-- THE TIED CARD OF 'laws.FnExactComposites'. -/
def fnExactCompositesCard : Claim7 := { stood := { row := fnExactCompositesRow, standIns := [], harness := (true, "4b4b52255cb664bbc21e0a64a2ce5febc2b101868d95d3ec8487c12210632079"), looks := false }, kinds := [], alts := [], laidByText := true, laidKinds := [.data, .data, .data, .data, .data], laidTests := true, laidLooks := .later }
def FnExactCompositesCardSaid : Prop := Claim7.holds Tryz.pinned (.plain (OpenSpec.ofChange fnExactCompositesSpec)) fnExactCompositesCard

/-- THE TIED CARD OF 'laws.FnExactProve'. -/
def fnExactProveCard : Claim7 := { stood := { row := fnExactProveRow, standIns := [], harness := (true, "4b4b52255cb664bbc21e0a64a2ce5febc2b101868d95d3ec8487c12210632079"), looks := false }, kinds := [], alts := [], laidByText := true, laidKinds := [.data, .data, .data, .data, .data], laidTests := true, laidLooks := .later }
def FnExactProveCardSaid : Prop := Claim7.holds Tryz.pinned (.plain (OpenSpec.ofChange fnExactProveSpec)) fnExactProveCard

/-- THE TIED CARD OF 'laws.FnExactCheck'. -/
def fnExactCheckCard : Claim7 := { stood := { row := fnExactCheckRow, standIns := [], harness := (true, "4b4b52255cb664bbc21e0a64a2ce5febc2b101868d95d3ec8487c12210632079"), looks := false }, kinds := [], alts := [], laidByText := true, laidKinds := [.data, .data, .data, .data, .data], laidTests := true, laidLooks := .later }
def FnExactCheckCardSaid : Prop := Claim7.holds Tryz.pinned (.plain (OpenSpec.ofChange fnExactCheckSpec)) fnExactCheckCard

/-- THE TIED CARD OF 'laws.FnProof'. -/
def fnProofCard : Claim7 := { stood := { row := fnProofRow, standIns := [], harness := (true, "4b4b52255cb664bbc21e0a64a2ce5febc2b101868d95d3ec8487c12210632079"), looks := false }, kinds := [], alts := [], laidByText := true, laidKinds := [.data, .data, .data, .data, .data], laidTests := true, laidLooks := .later }
def FnProofCardSaid : Prop := Claim7.holds Tryz.pinned (.plain (OpenSpec.ofChange fnProofSpec)) fnProofCard

/-- THE TIED CARD OF 'laws.FnExactUnseal'. -/
def fnExactUnsealCard : Claim7 := { stood := { row := fnExactUnsealRow, standIns := [], harness := (true, "4b4b52255cb664bbc21e0a64a2ce5febc2b101868d95d3ec8487c12210632079"), looks := false }, kinds := [], alts := [], laidByText := true, laidKinds := [.data, .data, .data, .data, .data], laidTests := true, laidLooks := .later }
def FnExactUnsealCardSaid : Prop := Claim7.holds Tryz.pinned (.plain (OpenSpec.ofChange fnExactUnsealSpec)) fnExactUnsealCard

/-- THE TIED CARD OF 'laws.FnExactSeal'. -/
def fnExactSealCard : Claim7 := { stood := { row := fnExactSealRow, standIns := [], harness := (true, "4b4b52255cb664bbc21e0a64a2ce5febc2b101868d95d3ec8487c12210632079"), looks := false }, kinds := [], alts := [], laidByText := true, laidKinds := [.data, .data, .data, .data, .data], laidTests := true, laidLooks := .later }
def FnExactSealCardSaid : Prop := Claim7.holds Tryz.pinned (.plain (OpenSpec.ofChange fnExactSealSpec)) fnExactSealCard

/-- THE TIED CARD OF 'laws.FnKeys'. -/
def fnKeysCard : Claim7 := { stood := { row := fnKeysRow, standIns := [], harness := (true, "4b4b52255cb664bbc21e0a64a2ce5febc2b101868d95d3ec8487c12210632079"), looks := false }, kinds := [], alts := [], laidByText := true, laidKinds := [.data, .data, .data, .data, .data], laidTests := true, laidLooks := .later }
def FnKeysCardSaid : Prop := Claim7.holds Tryz.pinned (.plain (OpenSpec.ofChange fnKeysSpec)) fnKeysCard

/-- THE TIED CARD OF 'laws.FnSeal'. -/
def fnSealCard : Claim7 := { stood := { row := fnSealRow, standIns := [], harness := (true, "4b4b52255cb664bbc21e0a64a2ce5febc2b101868d95d3ec8487c12210632079"), looks := false }, kinds := [], alts := [], laidByText := true, laidKinds := [.data, .data, .data, .data, .data], laidTests := true, laidLooks := .later }
def FnSealCardSaid : Prop := Claim7.holds Tryz.pinned (.plain (OpenSpec.ofChange fnSealSpec)) fnSealCard

/-- THE SECOND FORM's CARD OF 'laws.FnExactComposites'. -/
def fnExactCompositesUptoCard : Claim7 := { stood := { row := fnExactCompositesUptoRow, standIns := [], harness := (true, "4b4b52255cb664bbc21e0a64a2ce5febc2b101868d95d3ec8487c12210632079"), looks := false }, kinds := [], alts := [], laidByText := true, laidKinds := [.data, .data, .data, .data, .data], laidTests := true, laidLooks := .later }
def FnExactCompositesUptoCardSaid : Prop := Claim7.holds Tryz.pinned (.plain (OpenSpec.upto fnExactCompositesSpec)) fnExactCompositesUptoCard

/-- THE SECOND FORM's CARD OF 'laws.FnExactProve'. -/
def fnExactProveUptoCard : Claim7 := { stood := { row := fnExactProveUptoRow, standIns := [], harness := (true, "4b4b52255cb664bbc21e0a64a2ce5febc2b101868d95d3ec8487c12210632079"), looks := false }, kinds := [], alts := [], laidByText := true, laidKinds := [.data, .data, .data, .data, .data], laidTests := true, laidLooks := .later }
def FnExactProveUptoCardSaid : Prop := Claim7.holds Tryz.pinned (.plain (OpenSpec.upto fnExactProveSpec)) fnExactProveUptoCard

/-- THE SECOND FORM's CARD OF 'laws.FnExactCheck'. -/
def fnExactCheckUptoCard : Claim7 := { stood := { row := fnExactCheckUptoRow, standIns := [], harness := (true, "4b4b52255cb664bbc21e0a64a2ce5febc2b101868d95d3ec8487c12210632079"), looks := false }, kinds := [], alts := [], laidByText := true, laidKinds := [.data, .data, .data, .data, .data], laidTests := true, laidLooks := .later }
def FnExactCheckUptoCardSaid : Prop := Claim7.holds Tryz.pinned (.plain (OpenSpec.upto fnExactCheckSpec)) fnExactCheckUptoCard

/-- THE SECOND FORM's CARD OF 'laws.FnProof'. -/
def fnProofUptoCard : Claim7 := { stood := { row := fnProofUptoRow, standIns := [], harness := (true, "4b4b52255cb664bbc21e0a64a2ce5febc2b101868d95d3ec8487c12210632079"), looks := false }, kinds := [], alts := [], laidByText := true, laidKinds := [.data, .data, .data, .data, .data], laidTests := true, laidLooks := .later }
def FnProofUptoCardSaid : Prop := Claim7.holds Tryz.pinned (.plain (OpenSpec.upto fnProofSpec)) fnProofUptoCard

/-- THE SECOND FORM's CARD OF 'laws.FnExactUnseal'. -/
def fnExactUnsealUptoCard : Claim7 := { stood := { row := fnExactUnsealUptoRow, standIns := [], harness := (true, "4b4b52255cb664bbc21e0a64a2ce5febc2b101868d95d3ec8487c12210632079"), looks := false }, kinds := [], alts := [], laidByText := true, laidKinds := [.data, .data, .data, .data, .data], laidTests := true, laidLooks := .later }
def FnExactUnsealUptoCardSaid : Prop := Claim7.holds Tryz.pinned (.plain (OpenSpec.upto fnExactUnsealSpec)) fnExactUnsealUptoCard

/-- THE SECOND FORM's CARD OF 'laws.FnExactSeal'. -/
def fnExactSealUptoCard : Claim7 := { stood := { row := fnExactSealUptoRow, standIns := [], harness := (true, "4b4b52255cb664bbc21e0a64a2ce5febc2b101868d95d3ec8487c12210632079"), looks := false }, kinds := [], alts := [], laidByText := true, laidKinds := [.data, .data, .data, .data, .data], laidTests := true, laidLooks := .later }
def FnExactSealUptoCardSaid : Prop := Claim7.holds Tryz.pinned (.plain (OpenSpec.upto fnExactSealSpec)) fnExactSealUptoCard

/-- THE SECOND FORM's CARD OF 'laws.FnKeys'. -/
def fnKeysUptoCard : Claim7 := { stood := { row := fnKeysUptoRow, standIns := [], harness := (true, "4b4b52255cb664bbc21e0a64a2ce5febc2b101868d95d3ec8487c12210632079"), looks := false }, kinds := [], alts := [], laidByText := true, laidKinds := [.data, .data, .data, .data, .data], laidTests := true, laidLooks := .later }
def FnKeysUptoCardSaid : Prop := Claim7.holds Tryz.pinned (.plain (OpenSpec.upto fnKeysSpec)) fnKeysUptoCard

/-- THE SECOND FORM's CARD OF 'laws.FnSeal'. -/
def fnSealUptoCard : Claim7 := { stood := { row := fnSealUptoRow, standIns := [], harness := (true, "4b4b52255cb664bbc21e0a64a2ce5febc2b101868d95d3ec8487c12210632079"), looks := false }, kinds := [], alts := [], laidByText := true, laidKinds := [.data, .data, .data, .data, .data], laidTests := true, laidLooks := .later }
def FnSealUptoCardSaid : Prop := Claim7.holds Tryz.pinned (.plain (OpenSpec.upto fnSealSpec)) fnSealUptoCard
end Rows
end Go.Proofs.YtgdcafbdkidamaaGreatDoor
