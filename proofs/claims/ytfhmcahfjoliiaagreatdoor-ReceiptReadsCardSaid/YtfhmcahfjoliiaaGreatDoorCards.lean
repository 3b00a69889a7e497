/-
  DERIVED. GIVEN WITH THE SEED: THE CARDS: each row of YtfhmcahfjoliiaaGreatDoorRows.lean that lists a variable, with what it lists TIED to the program's text (the seventh form; the later family's looks); each row that meets fmt, with fmt's text TOLD by the authors' own Lean function (tested against real Go, not proved from fmt's source: count such statements apart). THE CARD IS WHAT COUNTS. Prove the row's statement (the work); the ties are given (YtfhmcahfjoliiaaGreatDoorTie.lean); close each card by the builder's one call (the guide's Derived/Test/ToyasCard.lean, 'card_holds'). Laid BY PROGRAM, IN A SANDBOX (cutbox-door.mjs). By AI agents, Wed Nov 11 2026. No macro, syntax, notation, axiom, sorry.
-/
import Derived.Test.YtfhmcahfjoliiaaGreatDoorRows
import GoSem.ClaimSeven
namespace Go.Proofs.YtfhmcahfjoliiaaGreatDoor
namespace Rows

/-- THE TIED CARD OF 'vendmeterlaw.ReceiptReads'. -/
def receiptReadsCard : Claim7 := { stood := { row := receiptReadsRow, standIns := [], harness := (true, "3383f91b76db2bfbc3d27d11b7aaccd5d838bb48227c467d3801098f546589e6"), looks := true }, kinds := [], alts := [], laidByText := true, laidKinds := [.data, .data, .data, .data, .sentinel, .sentinel, .pinned], laidTests := true, laidLooks := .later }
def ReceiptReadsCardSaid : Prop := Claim7.holds Tryz.pinned (.plain (OpenSpec.ofChange receiptReadsSpec)) receiptReadsCard

/-- THE SECOND FORM's CARD OF 'vendmeterlaw.ReceiptReads'. -/
def receiptReadsUptoCard : Claim7 := { stood := { row := receiptReadsUptoRow, standIns := [], harness := (true, "3383f91b76db2bfbc3d27d11b7aaccd5d838bb48227c467d3801098f546589e6"), looks := true }, kinds := [], alts := [], laidByText := true, laidKinds := [.data, .data, .data, .data, .sentinel, .sentinel, .pinned], laidTests := true, laidLooks := .later }
def ReceiptReadsUptoCardSaid : Prop := Claim7.holds Tryz.pinned (.plain (OpenSpec.upto receiptReadsSpec)) receiptReadsUptoCard
end Rows
end Go.Proofs.YtfhmcahfjoliiaaGreatDoor
