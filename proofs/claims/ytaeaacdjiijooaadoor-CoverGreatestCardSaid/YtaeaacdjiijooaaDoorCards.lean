/-
  DERIVED. GIVEN WITH THE SEED: THE CARDS: each row of YtaeaacdjiijooaaDoorRows.lean that lists a variable, with what it lists TIED to the program's text (the seventh form; the later family's looks); each row that meets fmt, with fmt's text TOLD by the authors' own Lean function (tested against real Go, not proved from fmt's source: count such statements apart). THE CARD IS WHAT COUNTS. Prove the row's statement (the work); the ties are given (YtaeaacdjiijooaaDoorTie.lean); close each card by the builder's one call (the guide's Derived/Test/ToyasCard.lean, 'card_holds'). Laid BY PROGRAM, IN A SANDBOX (cutbox-door.mjs). By AI agents, Wed Nov 11 2026. No macro, syntax, notation, axiom, sorry.
-/
import Derived.Test.YtaeaacdjiijooaaDoorRows
import GoSem.ClaimSeven
namespace Go.Proofs.YtaeaacdjiijooaaDoor
namespace Rows

/-- THE TIED CARD OF 'paymasterlaw20.CoverRanges'. -/
def coverRangesCard : Claim7 := { stood := { row := coverRangesRow, standIns := [], harness := (true, "679630a0cf627264b4d9a31dcbb799a35faf707ce36257b5c42224dfb657f2e3"), looks := false }, kinds := [], alts := [], laidByText := true, laidKinds := [.data], laidTests := true, laidLooks := .later }
def CoverRangesCardSaid : Prop := Claim7.holds Tryd.pinned (.plain (OpenSpec.ofChange coverRangesSpec)) coverRangesCard

/-- THE TIED CARD OF 'paymasterlaw20.CoverGreatest'. -/
def coverGreatestCard : Claim7 := { stood := { row := coverGreatestRow, standIns := [], harness := (true, "679630a0cf627264b4d9a31dcbb799a35faf707ce36257b5c42224dfb657f2e3"), looks := false }, kinds := [], alts := [], laidByText := true, laidKinds := [.data], laidTests := true, laidLooks := .later }
def CoverGreatestCardSaid : Prop := Claim7.holds Tryd.pinned (.plain (OpenSpec.ofChange coverGreatestSpec)) coverGreatestCard

/-- THE TIED CARD OF 'paymasterlaw20.CoverFree'. -/
def coverFreeCard : Claim7 := { stood := { row := coverFreeRow, standIns := [], harness := (true, "679630a0cf627264b4d9a31dcbb799a35faf707ce36257b5c42224dfb657f2e3"), looks := false }, kinds := [], alts := [], laidByText := true, laidKinds := [.data], laidTests := true, laidLooks := .later }
def CoverFreeCardSaid : Prop := Claim7.holds Tryd.pinned (.plain (OpenSpec.ofChange coverFreeSpec)) coverFreeCard

/-- THE TIED CARD OF 'paymasterlaw20.CoverAll'. -/
def coverAllCard : Claim7 := { stood := { row := coverAllRow, standIns := [], harness := (true, "679630a0cf627264b4d9a31dcbb799a35faf707ce36257b5c42224dfb657f2e3"), looks := false }, kinds := [], alts := [], laidByText := true, laidKinds := [.data], laidTests := true, laidLooks := .later }
def CoverAllCardSaid : Prop := Claim7.holds Tryd.pinned (.plain (OpenSpec.ofChange coverAllSpec)) coverAllCard

/-- THE SECOND FORM's CARD OF 'paymasterlaw20.CoverRanges'. -/
def coverRangesUptoCard : Claim7 := { stood := { row := coverRangesUptoRow, standIns := [], harness := (true, "679630a0cf627264b4d9a31dcbb799a35faf707ce36257b5c42224dfb657f2e3"), looks := false }, kinds := [], alts := [], laidByText := true, laidKinds := [.data], laidTests := true, laidLooks := .later }
def CoverRangesUptoCardSaid : Prop := Claim7.holds Tryd.pinned (.plain (OpenSpec.upto coverRangesSpec)) coverRangesUptoCard

/-- THE SECOND FORM's CARD OF 'paymasterlaw20.CoverGreatest'. -/
def coverGreatestUptoCard : Claim7 := { stood := { row := coverGreatestUptoRow, standIns := [], harness := (true, "679630a0cf627264b4d9a31dcbb799a35faf707ce36257b5c42224dfb657f2e3"), looks := false }, kinds := [], alts := [], laidByText := true, laidKinds := [.data], laidTests := true, laidLooks := .later }
def CoverGreatestUptoCardSaid : Prop := Claim7.holds Tryd.pinned (.plain (OpenSpec.upto coverGreatestSpec)) coverGreatestUptoCard

/-- THE SECOND FORM's CARD OF 'paymasterlaw20.CoverFree'. -/
def coverFreeUptoCard : Claim7 := { stood := { row := coverFreeUptoRow, standIns := [], harness := (true, "679630a0cf627264b4d9a31dcbb799a35faf707ce36257b5c42224dfb657f2e3"), looks := false }, kinds := [], alts := [], laidByText := true, laidKinds := [.data], laidTests := true, laidLooks := .later }
def CoverFreeUptoCardSaid : Prop := Claim7.holds Tryd.pinned (.plain (OpenSpec.upto coverFreeSpec)) coverFreeUptoCard

/-- THE SECOND FORM's CARD OF 'paymasterlaw20.CoverAll'. -/
def coverAllUptoCard : Claim7 := { stood := { row := coverAllUptoRow, standIns := [], harness := (true, "679630a0cf627264b4d9a31dcbb799a35faf707ce36257b5c42224dfb657f2e3"), looks := false }, kinds := [], alts := [], laidByText := true, laidKinds := [.data], laidTests := true, laidLooks := .later }
def CoverAllUptoCardSaid : Prop := Claim7.holds Tryd.pinned (.plain (OpenSpec.upto coverAllSpec)) coverAllUptoCard
end Rows
end Go.Proofs.YtaeaacdjiijooaaDoor
