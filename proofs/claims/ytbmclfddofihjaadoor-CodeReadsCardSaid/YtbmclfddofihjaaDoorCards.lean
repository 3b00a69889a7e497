/-
  DERIVED. GIVEN WITH THE SEED: THE CARDS: each row of YtbmclfddofihjaaDoorRows.lean that lists a variable, with what it lists TIED to the program's text (the seventh form; the later family's looks); each row that meets fmt, with fmt's text TOLD by the authors' own Lean function (tested against real Go, not proved from fmt's source: count such statements apart). THE CARD IS WHAT COUNTS. Prove the row's statement (the work); the ties are given (YtbmclfddofihjaaDoorTie.lean); close each card by the builder's one call (the guide's Derived/Test/ToyasCard.lean, 'card_holds'). Laid BY PROGRAM, IN A SANDBOX (cutbox-door.mjs). By AI agents, Wed Nov 11 2026. No macro, syntax, notation, axiom, sorry.
-/
import Derived.Test.YtbmclfddofihjaaDoorRows
import GoSem.ClaimSeven
namespace Go.Proofs.YtbmclfddofihjaaDoor
namespace Rows

/-- THE TIED CARD OF 'vendmeterlaw.CodeShows'. -/
def codeShowsCard : Claim7 := { stood := { row := codeShowsRow, standIns := [], harness := (true, "24965becf46759efd0c4a3945f663289ea42ce1509bf5c350246cfc9fb8bf03d"), looks := true }, kinds := [], alts := [], laidByText := true, laidKinds := [.data, .data, .data], laidTests := true, laidLooks := .later }
def CodeShowsCardSaid : Prop := Claim7.holds Tryd.pinned (.plain (OpenSpec.ofChange codeShowsSpec)) codeShowsCard

/-- THE TIED CARD OF 'vendmeterlaw.CodeReads'. -/
def codeReadsCard : Claim7 := { stood := { row := codeReadsRow, standIns := [], harness := (true, "24965becf46759efd0c4a3945f663289ea42ce1509bf5c350246cfc9fb8bf03d"), looks := true }, kinds := [], alts := [], laidByText := true, laidKinds := [.data, .data, .data, .sentinel, .sentinel], laidTests := true, laidLooks := .later }
def CodeReadsCardSaid : Prop := Claim7.holds Tryd.pinned (.plain (OpenSpec.ofChange codeReadsSpec)) codeReadsCard

/-- THE TIED CARD OF 'vendmeterlaw.ReceiptMeters'. -/
def receiptMetersCard : Claim7 := { stood := { row := receiptMetersRow, standIns := [], harness := (true, "24965becf46759efd0c4a3945f663289ea42ce1509bf5c350246cfc9fb8bf03d"), looks := true }, kinds := [], alts := [], laidByText := true, laidKinds := [.data, .data, .data, .sentinel, .sentinel], laidTests := true, laidLooks := .later }
def ReceiptMetersCardSaid : Prop := Claim7.holds Tryd.pinned (.plain (OpenSpec.ofChange receiptMetersSpec)) receiptMetersCard

/-- THE SECOND FORM's CARD OF 'vendmeterlaw.CodeShows'. -/
def codeShowsUptoCard : Claim7 := { stood := { row := codeShowsUptoRow, standIns := [], harness := (true, "24965becf46759efd0c4a3945f663289ea42ce1509bf5c350246cfc9fb8bf03d"), looks := true }, kinds := [], alts := [], laidByText := true, laidKinds := [.data, .data, .data], laidTests := true, laidLooks := .later }
def CodeShowsUptoCardSaid : Prop := Claim7.holds Tryd.pinned (.plain (OpenSpec.upto codeShowsSpec)) codeShowsUptoCard

/-- THE SECOND FORM's CARD OF 'vendmeterlaw.CodeReads'. -/
def codeReadsUptoCard : Claim7 := { stood := { row := codeReadsUptoRow, standIns := [], harness := (true, "24965becf46759efd0c4a3945f663289ea42ce1509bf5c350246cfc9fb8bf03d"), looks := true }, kinds := [], alts := [], laidByText := true, laidKinds := [.data, .data, .data, .sentinel, .sentinel], laidTests := true, laidLooks := .later }
def CodeReadsUptoCardSaid : Prop := Claim7.holds Tryd.pinned (.plain (OpenSpec.upto codeReadsSpec)) codeReadsUptoCard

/-- THE SECOND FORM's CARD OF 'vendmeterlaw.ReceiptMeters'. -/
def receiptMetersUptoCard : Claim7 := { stood := { row := receiptMetersUptoRow, standIns := [], harness := (true, "24965becf46759efd0c4a3945f663289ea42ce1509bf5c350246cfc9fb8bf03d"), looks := true }, kinds := [], alts := [], laidByText := true, laidKinds := [.data, .data, .data, .sentinel, .sentinel], laidTests := true, laidLooks := .later }
def ReceiptMetersUptoCardSaid : Prop := Claim7.holds Tryd.pinned (.plain (OpenSpec.upto receiptMetersSpec)) receiptMetersUptoCard
end Rows
end Go.Proofs.YtbmclfddofihjaaDoor
