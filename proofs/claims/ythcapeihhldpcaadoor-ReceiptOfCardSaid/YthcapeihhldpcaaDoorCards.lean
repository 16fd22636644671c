/-
  DERIVED. GIVEN WITH THE SEED: THE CARDS: each row of YthcapeihhldpcaaDoorRows.lean that lists a variable, with what it lists TIED to the program's text (the seventh form; the later family's looks); each row that meets fmt, with fmt's text TOLD by the authors' own Lean function (tested against real Go, not proved from fmt's source: count such statements apart). THE CARD IS WHAT COUNTS. Prove the row's statement (the work); the ties are given (YthcapeihhldpcaaDoorTie.lean); close each card by the builder's one call (the guide's Derived/Test/ToyasCard.lean, 'card_holds'). Laid BY PROGRAM, IN A SANDBOX (cutbox-door.mjs). By AI agents, Wed Nov 11 2026. No macro, syntax, notation, axiom, sorry.
-/
import Derived.Test.YthcapeihhldpcaaDoorRows
import GoSem.ClaimSeven
namespace Go.Proofs.YthcapeihhldpcaaDoor
namespace Rows

/-- THE TIED CARD OF 'miradorlaw41.ReceiptReads'. -/
def receiptReadsCard : Claim7 := { stood := { row := receiptReadsRow, standIns := [], harness := (true, "713483f43b8970f02e3e81a8206c19a0f39edac9dc5892499195335061bcdd14"), looks := true }, kinds := [], alts := [], laidByText := true, laidKinds := [.handle], laidTests := true, laidLooks := .later }
def ReceiptReadsCardSaid : Prop := Claim7.holds Tryd.pinned (.plain (OpenSpec.ofChange receiptReadsSpec)) receiptReadsCard

/-- THE TIED CARD OF 'miradorlaw41.ReceiptOf'. -/
def receiptOfCard : Claim7 := { stood := { row := receiptOfRow, standIns := [], harness := (true, "713483f43b8970f02e3e81a8206c19a0f39edac9dc5892499195335061bcdd14"), looks := true }, kinds := [], alts := [], laidByText := true, laidKinds := [.handle], laidTests := true, laidLooks := .later }
def ReceiptOfCardSaid : Prop := Claim7.holds Tryd.pinned (.plain (OpenSpec.ofChange receiptOfSpec)) receiptOfCard

/-- THE SECOND FORM's CARD OF 'miradorlaw41.ReceiptReads'. -/
def receiptReadsUptoCard : Claim7 := { stood := { row := receiptReadsUptoRow, standIns := [], harness := (true, "713483f43b8970f02e3e81a8206c19a0f39edac9dc5892499195335061bcdd14"), looks := true }, kinds := [], alts := [], laidByText := true, laidKinds := [.handle], laidTests := true, laidLooks := .later }
def ReceiptReadsUptoCardSaid : Prop := Claim7.holds Tryd.pinned (.plain (OpenSpec.upto receiptReadsSpec)) receiptReadsUptoCard

/-- THE SECOND FORM's CARD OF 'miradorlaw41.ReceiptOf'. -/
def receiptOfUptoCard : Claim7 := { stood := { row := receiptOfUptoRow, standIns := [], harness := (true, "713483f43b8970f02e3e81a8206c19a0f39edac9dc5892499195335061bcdd14"), looks := true }, kinds := [], alts := [], laidByText := true, laidKinds := [.handle], laidTests := true, laidLooks := .later }
def ReceiptOfUptoCardSaid : Prop := Claim7.holds Tryd.pinned (.plain (OpenSpec.upto receiptOfSpec)) receiptOfUptoCard
end Rows
end Go.Proofs.YthcapeihhldpcaaDoor
