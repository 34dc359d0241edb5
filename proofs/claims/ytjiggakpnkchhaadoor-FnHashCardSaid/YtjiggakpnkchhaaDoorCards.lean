/-
  DERIVED. GIVEN WITH THE SEED: THE CARDS: each row of YtjiggakpnkchhaaDoorRows.lean that lists a variable, with what it lists TIED to the program's text (the seventh form; the later family's looks); each row that meets fmt, with fmt's text TOLD by the authors' own Lean function (tested against real Go, not proved from fmt's source: count such statements apart). THE CARD IS WHAT COUNTS. Prove the row's statement (the work); the ties are given (YtjiggakpnkchhaaDoorTie.lean); close each card by the builder's one call (the guide's Derived/Test/ToyasCard.lean, 'card_holds'). Laid BY PROGRAM, IN A SANDBOX (cutbox-door.mjs). By AI agents, Wed Nov 11 2026. No macro, syntax, notation, axiom, sorry.
-/
import Derived.Test.YtjiggakpnkchhaaDoorRows
import GoSem.ClaimSeven
namespace Go.Proofs.YtjiggakpnkchhaaDoor
namespace Rows

/-- THE TIED CARD OF 'laws.FnExactSha256'. -/
def fnExactSha256Card : Claim7 := { stood := { row := fnExactSha256Row, standIns := [], harness := (true, "f567aacb61967c0e0bed69d8e84abf222a97d0603ce099a872162efaa74e4f4a"), looks := false }, kinds := [], alts := [], laidByText := true, laidKinds := [.data], laidTests := true, laidLooks := .later }
def FnExactSha256CardSaid : Prop := Claim7.holds Tryd.pinned (.plain (OpenSpec.ofChange fnExactSha256Spec)) fnExactSha256Card

/-- THE TIED CARD OF 'laws.FnExactHmac'. -/
def fnExactHmacCard : Claim7 := { stood := { row := fnExactHmacRow, standIns := [], harness := (true, "f567aacb61967c0e0bed69d8e84abf222a97d0603ce099a872162efaa74e4f4a"), looks := false }, kinds := [], alts := [], laidByText := true, laidKinds := [.data], laidTests := true, laidLooks := .later }
def FnExactHmacCardSaid : Prop := Claim7.holds Tryd.pinned (.plain (OpenSpec.ofChange fnExactHmacSpec)) fnExactHmacCard

/-- THE TIED CARD OF 'laws.FnExactExtract'. -/
def fnExactExtractCard : Claim7 := { stood := { row := fnExactExtractRow, standIns := [], harness := (true, "f567aacb61967c0e0bed69d8e84abf222a97d0603ce099a872162efaa74e4f4a"), looks := false }, kinds := [], alts := [], laidByText := true, laidKinds := [.data], laidTests := true, laidLooks := .later }
def FnExactExtractCardSaid : Prop := Claim7.holds Tryd.pinned (.plain (OpenSpec.ofChange fnExactExtractSpec)) fnExactExtractCard

/-- THE TIED CARD OF 'laws.FnExactExpandMessage'. -/
def fnExactExpandMessageCard : Claim7 := { stood := { row := fnExactExpandMessageRow, standIns := [], harness := (true, "f567aacb61967c0e0bed69d8e84abf222a97d0603ce099a872162efaa74e4f4a"), looks := false }, kinds := [], alts := [], laidByText := true, laidKinds := [.data], laidTests := true, laidLooks := .later }
def FnExactExpandMessageCardSaid : Prop := Claim7.holds Tryd.pinned (.plain (OpenSpec.ofChange fnExactExpandMessageSpec)) fnExactExpandMessageCard

/-- THE TIED CARD OF 'laws.FnExactExpand'. -/
def fnExactExpandCard : Claim7 := { stood := { row := fnExactExpandRow, standIns := [], harness := (true, "f567aacb61967c0e0bed69d8e84abf222a97d0603ce099a872162efaa74e4f4a"), looks := false }, kinds := [], alts := [], laidByText := true, laidKinds := [.data], laidTests := true, laidLooks := .later }
def FnExactExpandCardSaid : Prop := Claim7.holds Tryd.pinned (.plain (OpenSpec.ofChange fnExactExpandSpec)) fnExactExpandCard

/-- THE TIED CARD OF 'laws.FnGroup'. -/
def fnGroupCard : Claim7 := { stood := { row := fnGroupRow, standIns := [], harness := (true, "f567aacb61967c0e0bed69d8e84abf222a97d0603ce099a872162efaa74e4f4a"), looks := false }, kinds := [], alts := [], laidByText := true, laidKinds := [.data], laidTests := true, laidLooks := .later }
def FnGroupCardSaid : Prop := Claim7.holds Tryd.pinned (.plain (OpenSpec.ofChange fnGroupSpec)) fnGroupCard

/-- THE TIED CARD OF 'laws.FnExactHashToScalar'. -/
def fnExactHashToScalarCard : Claim7 := { stood := { row := fnExactHashToScalarRow, standIns := [], harness := (true, "f567aacb61967c0e0bed69d8e84abf222a97d0603ce099a872162efaa74e4f4a"), looks := false }, kinds := [], alts := [], laidByText := true, laidKinds := [.data], laidTests := true, laidLooks := .later }
def FnExactHashToScalarCardSaid : Prop := Claim7.holds Tryd.pinned (.plain (OpenSpec.ofChange fnExactHashToScalarSpec)) fnExactHashToScalarCard

/-- THE TIED CARD OF 'laws.FnExactPutMessage'. -/
def fnExactPutMessageCard : Claim7 := { stood := { row := fnExactPutMessageRow, standIns := [], harness := (true, "f567aacb61967c0e0bed69d8e84abf222a97d0603ce099a872162efaa74e4f4a"), looks := false }, kinds := [], alts := [], laidByText := true, laidKinds := [.data], laidTests := true, laidLooks := .later }
def FnExactPutMessageCardSaid : Prop := Claim7.holds Tryd.pinned (.plain (OpenSpec.ofChange fnExactPutMessageSpec)) fnExactPutMessageCard

/-- THE TIED CARD OF 'laws.FnExactHashToField'. -/
def fnExactHashToFieldCard : Claim7 := { stood := { row := fnExactHashToFieldRow, standIns := [], harness := (true, "f567aacb61967c0e0bed69d8e84abf222a97d0603ce099a872162efaa74e4f4a"), looks := false }, kinds := [], alts := [], laidByText := true, laidKinds := [.data], laidTests := true, laidLooks := .later }
def FnExactHashToFieldCardSaid : Prop := Claim7.holds Tryd.pinned (.plain (OpenSpec.ofChange fnExactHashToFieldSpec)) fnExactHashToFieldCard

/-- THE TIED CARD OF 'laws.FnExactAgree'. -/
def fnExactAgreeCard : Claim7 := { stood := { row := fnExactAgreeRow, standIns := [], harness := (true, "f567aacb61967c0e0bed69d8e84abf222a97d0603ce099a872162efaa74e4f4a"), looks := false }, kinds := [], alts := [], laidByText := true, laidKinds := [.data, .data], laidTests := true, laidLooks := .later }
def FnExactAgreeCardSaid : Prop := Claim7.holds Tryd.pinned (.plain (OpenSpec.ofChange fnExactAgreeSpec)) fnExactAgreeCard

/-- THE TIED CARD OF 'laws.FnHash'. -/
def fnHashCard : Claim7 := { stood := { row := fnHashRow, standIns := [], harness := (true, "f567aacb61967c0e0bed69d8e84abf222a97d0603ce099a872162efaa74e4f4a"), looks := false }, kinds := [], alts := [], laidByText := true, laidKinds := [.data], laidTests := true, laidLooks := .later }
def FnHashCardSaid : Prop := Claim7.holds Tryd.pinned (.plain (OpenSpec.ofChange fnHashSpec)) fnHashCard

/-- THE SECOND FORM's CARD OF 'laws.FnExactSha256'. -/
def fnExactSha256UptoCard : Claim7 := { stood := { row := fnExactSha256UptoRow, standIns := [], harness := (true, "f567aacb61967c0e0bed69d8e84abf222a97d0603ce099a872162efaa74e4f4a"), looks := false }, kinds := [], alts := [], laidByText := true, laidKinds := [.data], laidTests := true, laidLooks := .later }
def FnExactSha256UptoCardSaid : Prop := Claim7.holds Tryd.pinned (.plain (OpenSpec.upto fnExactSha256Spec)) fnExactSha256UptoCard

/-- THE SECOND FORM's CARD OF 'laws.FnExactHmac'. -/
def fnExactHmacUptoCard : Claim7 := { stood := { row := fnExactHmacUptoRow, standIns := [], harness := (true, "f567aacb61967c0e0bed69d8e84abf222a97d0603ce099a872162efaa74e4f4a"), looks := false }, kinds := [], alts := [], laidByText := true, laidKinds := [.data], laidTests := true, laidLooks := .later }
def FnExactHmacUptoCardSaid : Prop := Claim7.holds Tryd.pinned (.plain (OpenSpec.upto fnExactHmacSpec)) fnExactHmacUptoCard

/-- THE SECOND FORM's CARD OF 'laws.FnExactExtract'. -/
def fnExactExtractUptoCard : Claim7 := { stood := { row := fnExactExtractUptoRow, standIns := [], harness := (true, "f567aacb61967c0e0bed69d8e84abf222a97d0603ce099a872162efaa74e4f4a"), looks := false }, kinds := [], alts := [], laidByText := true, laidKinds := [.data], laidTests := true, laidLooks := .later }
def FnExactExtractUptoCardSaid : Prop := Claim7.holds Tryd.pinned (.plain (OpenSpec.upto fnExactExtractSpec)) fnExactExtractUptoCard

/-- THE SECOND FORM's CARD OF 'laws.FnExactExpandMessage'. -/
def fnExactExpandMessageUptoCard : Claim7 := { stood := { row := fnExactExpandMessageUptoRow, standIns := [], harness := (true, "f567aacb61967c0e0bed69d8e84abf222a97d0603ce099a872162efaa74e4f4a"), looks := false }, kinds := [], alts := [], laidByText := true, laidKinds := [.data], laidTests := true, laidLooks := .later }
def FnExactExpandMessageUptoCardSaid : Prop := Claim7.holds Tryd.pinned (.plain (OpenSpec.upto fnExactExpandMessageSpec)) fnExactExpandMessageUptoCard

/-- THE SECOND FORM's CARD OF 'laws.FnExactExpand'. -/
def fnExactExpandUptoCard : Claim7 := { stood := { row := fnExactExpandUptoRow, standIns := [], harness := (true, "f567aacb61967c0e0bed69d8e84abf222a97d0603ce099a872162efaa74e4f4a"), looks := false }, kinds := [], alts := [], laidByText := true, laidKinds := [.data], laidTests := true, laidLooks := .later }
def FnExactExpandUptoCardSaid : Prop := Claim7.holds Tryd.pinned (.plain (OpenSpec.upto fnExactExpandSpec)) fnExactExpandUptoCard

/-- THE SECOND FORM's CARD OF 'laws.FnGroup'. -/
def fnGroupUptoCard : Claim7 := { stood := { row := fnGroupUptoRow, standIns := [], harness := (true, "f567aacb61967c0e0bed69d8e84abf222a97d0603ce099a872162efaa74e4f4a"), looks := false }, kinds := [], alts := [], laidByText := true, laidKinds := [.data], laidTests := true, laidLooks := .later }
def FnGroupUptoCardSaid : Prop := Claim7.holds Tryd.pinned (.plain (OpenSpec.upto fnGroupSpec)) fnGroupUptoCard

/-- THE SECOND FORM's CARD OF 'laws.FnExactHashToScalar'. -/
def fnExactHashToScalarUptoCard : Claim7 := { stood := { row := fnExactHashToScalarUptoRow, standIns := [], harness := (true, "f567aacb61967c0e0bed69d8e84abf222a97d0603ce099a872162efaa74e4f4a"), looks := false }, kinds := [], alts := [], laidByText := true, laidKinds := [.data], laidTests := true, laidLooks := .later }
def FnExactHashToScalarUptoCardSaid : Prop := Claim7.holds Tryd.pinned (.plain (OpenSpec.upto fnExactHashToScalarSpec)) fnExactHashToScalarUptoCard

/-- THE SECOND FORM's CARD OF 'laws.FnExactPutMessage'. -/
def fnExactPutMessageUptoCard : Claim7 := { stood := { row := fnExactPutMessageUptoRow, standIns := [], harness := (true, "f567aacb61967c0e0bed69d8e84abf222a97d0603ce099a872162efaa74e4f4a"), looks := false }, kinds := [], alts := [], laidByText := true, laidKinds := [.data], laidTests := true, laidLooks := .later }
def FnExactPutMessageUptoCardSaid : Prop := Claim7.holds Tryd.pinned (.plain (OpenSpec.upto fnExactPutMessageSpec)) fnExactPutMessageUptoCard

/-- THE SECOND FORM's CARD OF 'laws.FnExactHashToField'. -/
def fnExactHashToFieldUptoCard : Claim7 := { stood := { row := fnExactHashToFieldUptoRow, standIns := [], harness := (true, "f567aacb61967c0e0bed69d8e84abf222a97d0603ce099a872162efaa74e4f4a"), looks := false }, kinds := [], alts := [], laidByText := true, laidKinds := [.data], laidTests := true, laidLooks := .later }
def FnExactHashToFieldUptoCardSaid : Prop := Claim7.holds Tryd.pinned (.plain (OpenSpec.upto fnExactHashToFieldSpec)) fnExactHashToFieldUptoCard

/-- THE SECOND FORM's CARD OF 'laws.FnExactAgree'. -/
def fnExactAgreeUptoCard : Claim7 := { stood := { row := fnExactAgreeUptoRow, standIns := [], harness := (true, "f567aacb61967c0e0bed69d8e84abf222a97d0603ce099a872162efaa74e4f4a"), looks := false }, kinds := [], alts := [], laidByText := true, laidKinds := [.data, .data], laidTests := true, laidLooks := .later }
def FnExactAgreeUptoCardSaid : Prop := Claim7.holds Tryd.pinned (.plain (OpenSpec.upto fnExactAgreeSpec)) fnExactAgreeUptoCard

/-- THE SECOND FORM's CARD OF 'laws.FnHash'. -/
def fnHashUptoCard : Claim7 := { stood := { row := fnHashUptoRow, standIns := [], harness := (true, "f567aacb61967c0e0bed69d8e84abf222a97d0603ce099a872162efaa74e4f4a"), looks := false }, kinds := [], alts := [], laidByText := true, laidKinds := [.data], laidTests := true, laidLooks := .later }
def FnHashUptoCardSaid : Prop := Claim7.holds Tryd.pinned (.plain (OpenSpec.upto fnHashSpec)) fnHashUptoCard
end Rows
end Go.Proofs.YtjiggakpnkchhaaDoor
