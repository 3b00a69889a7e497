/-
  DERIVED. GIVEN WITH THE SEED: THE CARDS: each row of YtiiielccimchgaaDoorRows.lean that lists a variable, with what it lists TIED to the program's text (the seventh form; the later family's looks); each row that meets fmt, with fmt's text TOLD by the authors' own Lean function (tested against real Go, not proved from fmt's source: count such statements apart). THE CARD IS WHAT COUNTS. Prove the row's statement (the work); the ties are given (YtiiielccimchgaaDoorTie.lean); close each card by the builder's one call (the guide's Derived/Test/ToyasCard.lean, 'card_holds'). Laid BY PROGRAM, IN A SANDBOX (cutbox-door.mjs). By AI agents, Wed Nov 11 2026. No macro, syntax, notation, axiom, sorry.
-/
import Derived.Test.YtiiielccimchgaaDoorRows
import GoSem.ClaimSeven
namespace Go.Proofs.YtiiielccimchgaaDoor
namespace Rows

/-- THE TIED CARD OF 'vendmeterlaw.CodeShows'. -/
def codeShowsCard : Claim7 := { stood := { row := codeShowsRow, standIns := [], harness := (true, "0dcceabf54d44143c89cb5068240b5796ded8ca0050e4d2c2bcc5e2029cc6d9a"), looks := true }, kinds := [], alts := [], laidByText := true, laidKinds := [.data, .data, .data], laidTests := true, laidLooks := .later }
def CodeShowsCardSaid : Prop := Claim7.holds Tryd.pinned (.plain (OpenSpec.ofChange codeShowsSpec)) codeShowsCard

/-- THE TIED CARD OF 'vendmeterlaw.ReceiptMeters'. -/
def receiptMetersCard : Claim7 := { stood := { row := receiptMetersRow, standIns := [], harness := (true, "0dcceabf54d44143c89cb5068240b5796ded8ca0050e4d2c2bcc5e2029cc6d9a"), looks := true }, kinds := [], alts := [], laidByText := true, laidKinds := [.data, .data, .data, .sentinel, .sentinel], laidTests := true, laidLooks := .later }
def ReceiptMetersCardSaid : Prop := Claim7.holds Tryd.pinned (.plain (OpenSpec.ofChange receiptMetersSpec)) receiptMetersCard

/-- THE SECOND FORM's CARD OF 'vendmeterlaw.CodeShows'. -/
def codeShowsUptoCard : Claim7 := { stood := { row := codeShowsUptoRow, standIns := [], harness := (true, "0dcceabf54d44143c89cb5068240b5796ded8ca0050e4d2c2bcc5e2029cc6d9a"), looks := true }, kinds := [], alts := [], laidByText := true, laidKinds := [.data, .data, .data], laidTests := true, laidLooks := .later }
def CodeShowsUptoCardSaid : Prop := Claim7.holds Tryd.pinned (.plain (OpenSpec.upto codeShowsSpec)) codeShowsUptoCard

/-- THE SECOND FORM's CARD OF 'vendmeterlaw.ReceiptMeters'. -/
def receiptMetersUptoCard : Claim7 := { stood := { row := receiptMetersUptoRow, standIns := [], harness := (true, "0dcceabf54d44143c89cb5068240b5796ded8ca0050e4d2c2bcc5e2029cc6d9a"), looks := true }, kinds := [], alts := [], laidByText := true, laidKinds := [.data, .data, .data, .sentinel, .sentinel], laidTests := true, laidLooks := .later }
def ReceiptMetersUptoCardSaid : Prop := Claim7.holds Tryd.pinned (.plain (OpenSpec.upto receiptMetersSpec)) receiptMetersUptoCard
end Rows
end Go.Proofs.YtiiielccimchgaaDoor
