/-
  DERIVED. GIVEN WITH THE SEED: THE CARDS: each row of YtpbapnlnheahnaaGreatDoorRows.lean that lists a variable, with what it lists TIED to the program's text (the seventh form; the later family's looks); each row that meets fmt, with fmt's text TOLD by the authors' own Lean function (tested against real Go, not proved from fmt's source: count such statements apart). THE CARD IS WHAT COUNTS. Prove the row's statement (the work); the ties are given (YtpbapnlnheahnaaGreatDoorTie.lean); close each card by the builder's one call (the guide's Derived/Test/ToyasCard.lean, 'card_holds'). Laid BY PROGRAM, IN A SANDBOX (cutbox-door.mjs). By AI agents, Wed Nov 11 2026. No macro, syntax, notation, axiom, sorry.
-/
import Derived.Test.YtpbapnlnheahnaaGreatDoorRows
import GoSem.ClaimSeven
namespace Go.Proofs.YtpbapnlnheahnaaGreatDoor
namespace Rows

/-- THE TIED CARD OF 'miradorlaw32.ImprintBytes'. -/
def imprintBytesCard : Claim7 := { stood := { row := imprintBytesRow, standIns := [], harness := (true, "bb31726d3cbeeb8aec21b53424cc5a72f1b8507420efcac07580dcfe8fae32da"), looks := true }, kinds := [], alts := [], laidByText := true, laidKinds := [.handle], laidTests := true, laidLooks := .later }
def ImprintBytesCardSaid : Prop := Claim7.holds Tryz.pinned (.plain (OpenSpec.ofChange imprintBytesSpec)) imprintBytesCard

/-- THE TIED CARD OF 'miradorlaw32.ImprintReads'. -/
def imprintReadsCard : Claim7 := { stood := { row := imprintReadsRow, standIns := [], harness := (true, "bb31726d3cbeeb8aec21b53424cc5a72f1b8507420efcac07580dcfe8fae32da"), looks := true }, kinds := [], alts := [], laidByText := true, laidKinds := [.handle], laidTests := true, laidLooks := .later }
def ImprintReadsCardSaid : Prop := Claim7.holds Tryz.pinned (.plain (OpenSpec.ofChange imprintReadsSpec)) imprintReadsCard

/-- THE SECOND FORM's CARD OF 'miradorlaw32.ImprintBytes'. -/
def imprintBytesUptoCard : Claim7 := { stood := { row := imprintBytesUptoRow, standIns := [], harness := (true, "bb31726d3cbeeb8aec21b53424cc5a72f1b8507420efcac07580dcfe8fae32da"), looks := true }, kinds := [], alts := [], laidByText := true, laidKinds := [.handle], laidTests := true, laidLooks := .later }
def ImprintBytesUptoCardSaid : Prop := Claim7.holds Tryz.pinned (.plain (OpenSpec.upto imprintBytesSpec)) imprintBytesUptoCard

/-- THE SECOND FORM's CARD OF 'miradorlaw32.ImprintReads'. -/
def imprintReadsUptoCard : Claim7 := { stood := { row := imprintReadsUptoRow, standIns := [], harness := (true, "bb31726d3cbeeb8aec21b53424cc5a72f1b8507420efcac07580dcfe8fae32da"), looks := true }, kinds := [], alts := [], laidByText := true, laidKinds := [.handle], laidTests := true, laidLooks := .later }
def ImprintReadsUptoCardSaid : Prop := Claim7.holds Tryz.pinned (.plain (OpenSpec.upto imprintReadsSpec)) imprintReadsUptoCard
end Rows
end Go.Proofs.YtpbapnlnheahnaaGreatDoor
