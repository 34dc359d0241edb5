/-
  DERIVED. GIVEN WITH THE SEED: THE CARDS: each row of YtoejhekppfgmpaaDoorRows.lean that lists a variable, with what it lists TIED to the program's text (the seventh form; the later family's looks); each row that meets fmt, with fmt's text TOLD by the authors' own Lean function (tested against real Go, not proved from fmt's source: count such statements apart). THE CARD IS WHAT COUNTS. Prove the row's statement (the work); the ties are given (YtoejhekppfgmpaaDoorTie.lean); close each card by the builder's one call (the guide's Derived/Test/ToyasCard.lean, 'card_holds'). Laid BY PROGRAM, IN A SANDBOX (cutbox-door.mjs). By AI agents, Wed Nov 11 2026. No macro, syntax, notation, axiom, sorry.
-/
import Derived.Test.YtoejhekppfgmpaaDoorRows
import GoSem.ClaimSeven
namespace Go.Proofs.YtoejhekppfgmpaaDoor
namespace Rows

/-- THE TIED CARD OF 'laws.FnGroup'. -/
def fnGroupCard : Claim7 := { stood := { row := fnGroupRow, standIns := [], harness := (true, "0f55db9706e1925a5499d30ed4307a68492035b005d74d116748935fb9ee17f2"), looks := false }, kinds := [], alts := [], laidByText := true, laidKinds := [.data], laidTests := true, laidLooks := .later }
def FnGroupCardSaid : Prop := Claim7.holds Tryd.pinned (.plain (OpenSpec.ofChange fnGroupSpec)) fnGroupCard

/-- THE TIED CARD OF 'laws.FnExactPutMessage'. -/
def fnExactPutMessageCard : Claim7 := { stood := { row := fnExactPutMessageRow, standIns := [], harness := (true, "0f55db9706e1925a5499d30ed4307a68492035b005d74d116748935fb9ee17f2"), looks := false }, kinds := [], alts := [], laidByText := true, laidKinds := [.data], laidTests := true, laidLooks := .later }
def FnExactPutMessageCardSaid : Prop := Claim7.holds Tryd.pinned (.plain (OpenSpec.ofChange fnExactPutMessageSpec)) fnExactPutMessageCard

/-- THE TIED CARD OF 'laws.FnExactAgree'. -/
def fnExactAgreeCard : Claim7 := { stood := { row := fnExactAgreeRow, standIns := [], harness := (true, "0f55db9706e1925a5499d30ed4307a68492035b005d74d116748935fb9ee17f2"), looks := false }, kinds := [], alts := [], laidByText := true, laidKinds := [.data, .data], laidTests := true, laidLooks := .later }
def FnExactAgreeCardSaid : Prop := Claim7.holds Tryd.pinned (.plain (OpenSpec.ofChange fnExactAgreeSpec)) fnExactAgreeCard

/-- THE TIED CARD OF 'laws.FnExactGetMessage'. -/
def fnExactGetMessageCard : Claim7 := { stood := { row := fnExactGetMessageRow, standIns := [], harness := (true, "0f55db9706e1925a5499d30ed4307a68492035b005d74d116748935fb9ee17f2"), looks := false }, kinds := [], alts := [], laidByText := true, laidKinds := [.data], laidTests := true, laidLooks := .later }
def FnExactGetMessageCardSaid : Prop := Claim7.holds Tryd.pinned (.plain (OpenSpec.ofChange fnExactGetMessageSpec)) fnExactGetMessageCard

/-- THE TIED CARD OF 'laws.FnExactHashToGroup'. -/
def fnExactHashToGroupCard : Claim7 := { stood := { row := fnExactHashToGroupRow, standIns := [], harness := (true, "0f55db9706e1925a5499d30ed4307a68492035b005d74d116748935fb9ee17f2"), looks := false }, kinds := [], alts := [], laidByText := true, laidKinds := [.data, .data], laidTests := true, laidLooks := .later }
def FnExactHashToGroupCardSaid : Prop := Claim7.holds Tryd.pinned (.plain (OpenSpec.ofChange fnExactHashToGroupSpec)) fnExactHashToGroupCard

/-- THE TIED CARD OF 'laws.FnExactDeriveKey'. -/
def fnExactDeriveKeyCard : Claim7 := { stood := { row := fnExactDeriveKeyRow, standIns := [], harness := (true, "0f55db9706e1925a5499d30ed4307a68492035b005d74d116748935fb9ee17f2"), looks := false }, kinds := [], alts := [], laidByText := true, laidKinds := [.data, .data, .data, .data], laidTests := true, laidLooks := .later }
def FnExactDeriveKeyCardSaid : Prop := Claim7.holds Tryd.pinned (.plain (OpenSpec.ofChange fnExactDeriveKeySpec)) fnExactDeriveKeyCard

/-- THE TIED CARD OF 'laws.FnMessages'. -/
def fnMessagesCard : Claim7 := { stood := { row := fnMessagesRow, standIns := [], harness := (true, "0f55db9706e1925a5499d30ed4307a68492035b005d74d116748935fb9ee17f2"), looks := false }, kinds := [], alts := [], laidByText := true, laidKinds := [.data], laidTests := true, laidLooks := .later }
def FnMessagesCardSaid : Prop := Claim7.holds Tryd.pinned (.plain (OpenSpec.ofChange fnMessagesSpec)) fnMessagesCard

/-- THE TIED CARD OF 'laws.FnMap'. -/
def fnMapCard : Claim7 := { stood := { row := fnMapRow, standIns := [], harness := (true, "0f55db9706e1925a5499d30ed4307a68492035b005d74d116748935fb9ee17f2"), looks := false }, kinds := [], alts := [], laidByText := true, laidKinds := [.data, .data], laidTests := true, laidLooks := .later }
def FnMapCardSaid : Prop := Claim7.holds Tryd.pinned (.plain (OpenSpec.ofChange fnMapSpec)) fnMapCard

/-- THE SECOND FORM's CARD OF 'laws.FnGroup'. -/
def fnGroupUptoCard : Claim7 := { stood := { row := fnGroupUptoRow, standIns := [], harness := (true, "0f55db9706e1925a5499d30ed4307a68492035b005d74d116748935fb9ee17f2"), looks := false }, kinds := [], alts := [], laidByText := true, laidKinds := [.data], laidTests := true, laidLooks := .later }
def FnGroupUptoCardSaid : Prop := Claim7.holds Tryd.pinned (.plain (OpenSpec.upto fnGroupSpec)) fnGroupUptoCard

/-- THE SECOND FORM's CARD OF 'laws.FnExactPutMessage'. -/
def fnExactPutMessageUptoCard : Claim7 := { stood := { row := fnExactPutMessageUptoRow, standIns := [], harness := (true, "0f55db9706e1925a5499d30ed4307a68492035b005d74d116748935fb9ee17f2"), looks := false }, kinds := [], alts := [], laidByText := true, laidKinds := [.data], laidTests := true, laidLooks := .later }
def FnExactPutMessageUptoCardSaid : Prop := Claim7.holds Tryd.pinned (.plain (OpenSpec.upto fnExactPutMessageSpec)) fnExactPutMessageUptoCard

/-- THE SECOND FORM's CARD OF 'laws.FnExactAgree'. -/
def fnExactAgreeUptoCard : Claim7 := { stood := { row := fnExactAgreeUptoRow, standIns := [], harness := (true, "0f55db9706e1925a5499d30ed4307a68492035b005d74d116748935fb9ee17f2"), looks := false }, kinds := [], alts := [], laidByText := true, laidKinds := [.data, .data], laidTests := true, laidLooks := .later }
def FnExactAgreeUptoCardSaid : Prop := Claim7.holds Tryd.pinned (.plain (OpenSpec.upto fnExactAgreeSpec)) fnExactAgreeUptoCard

/-- THE SECOND FORM's CARD OF 'laws.FnExactGetMessage'. -/
def fnExactGetMessageUptoCard : Claim7 := { stood := { row := fnExactGetMessageUptoRow, standIns := [], harness := (true, "0f55db9706e1925a5499d30ed4307a68492035b005d74d116748935fb9ee17f2"), looks := false }, kinds := [], alts := [], laidByText := true, laidKinds := [.data], laidTests := true, laidLooks := .later }
def FnExactGetMessageUptoCardSaid : Prop := Claim7.holds Tryd.pinned (.plain (OpenSpec.upto fnExactGetMessageSpec)) fnExactGetMessageUptoCard

/-- THE SECOND FORM's CARD OF 'laws.FnExactHashToGroup'. -/
def fnExactHashToGroupUptoCard : Claim7 := { stood := { row := fnExactHashToGroupUptoRow, standIns := [], harness := (true, "0f55db9706e1925a5499d30ed4307a68492035b005d74d116748935fb9ee17f2"), looks := false }, kinds := [], alts := [], laidByText := true, laidKinds := [.data, .data], laidTests := true, laidLooks := .later }
def FnExactHashToGroupUptoCardSaid : Prop := Claim7.holds Tryd.pinned (.plain (OpenSpec.upto fnExactHashToGroupSpec)) fnExactHashToGroupUptoCard

/-- THE SECOND FORM's CARD OF 'laws.FnExactDeriveKey'. -/
def fnExactDeriveKeyUptoCard : Claim7 := { stood := { row := fnExactDeriveKeyUptoRow, standIns := [], harness := (true, "0f55db9706e1925a5499d30ed4307a68492035b005d74d116748935fb9ee17f2"), looks := false }, kinds := [], alts := [], laidByText := true, laidKinds := [.data, .data, .data, .data], laidTests := true, laidLooks := .later }
def FnExactDeriveKeyUptoCardSaid : Prop := Claim7.holds Tryd.pinned (.plain (OpenSpec.upto fnExactDeriveKeySpec)) fnExactDeriveKeyUptoCard

/-- THE SECOND FORM's CARD OF 'laws.FnMessages'. -/
def fnMessagesUptoCard : Claim7 := { stood := { row := fnMessagesUptoRow, standIns := [], harness := (true, "0f55db9706e1925a5499d30ed4307a68492035b005d74d116748935fb9ee17f2"), looks := false }, kinds := [], alts := [], laidByText := true, laidKinds := [.data], laidTests := true, laidLooks := .later }
def FnMessagesUptoCardSaid : Prop := Claim7.holds Tryd.pinned (.plain (OpenSpec.upto fnMessagesSpec)) fnMessagesUptoCard

/-- THE SECOND FORM's CARD OF 'laws.FnMap'. -/
def fnMapUptoCard : Claim7 := { stood := { row := fnMapUptoRow, standIns := [], harness := (true, "0f55db9706e1925a5499d30ed4307a68492035b005d74d116748935fb9ee17f2"), looks := false }, kinds := [], alts := [], laidByText := true, laidKinds := [.data, .data], laidTests := true, laidLooks := .later }
def FnMapUptoCardSaid : Prop := Claim7.holds Tryd.pinned (.plain (OpenSpec.upto fnMapSpec)) fnMapUptoCard
end Rows
end Go.Proofs.YtoejhekppfgmpaaDoor
