/-
  DERIVED. GIVEN WITH THE SEED: THE CARDS: each row of YtfijhbfdkcajjaaGreatDoorRows.lean that lists a variable, with what it lists TIED to the program's text (the seventh form; the later family's looks); each row that meets fmt, with fmt's text TOLD by the authors' own Lean function (tested against real Go, not proved from fmt's source: count such statements apart). THE CARD IS WHAT COUNTS. Prove the row's statement (the work); the ties are given (YtfijhbfdkcajjaaGreatDoorTie.lean); close each card by the builder's one call (the guide's Derived/Test/ToyasCard.lean, 'card_holds'). Laid BY PROGRAM, IN A SANDBOX (cutbox-door.mjs). By AI agents, Wed Nov 11 2026. No macro, syntax, notation, axiom, sorry.
-/
import Derived.Test.YtfijhbfdkcajjaaGreatDoorRows
import GoSem.ClaimSeven
namespace Go.Proofs.YtfijhbfdkcajjaaGreatDoor
namespace Rows

/-- THE TIED CARD OF 'paymasterlaw12.SlotsPlaces'. -/
def slotsPlacesCard : Claim7 := { stood := { row := slotsPlacesRow, standIns := [], harness := (true, "116c23e38047d1defc6d80d440462d4d1bc7bfedd0c93d86220ba7b35d59f3dc"), looks := false }, kinds := [], alts := [], laidByText := true, laidKinds := [.data, .data, .pinned], laidTests := true, laidLooks := .later }
def SlotsPlacesCardSaid : Prop := Claim7.holds Tryz.pinned (.plain (OpenSpec.ofChange slotsPlacesSpec)) slotsPlacesCard

/-- THE TIED CARD OF 'paymasterlaw12.SlotsOwn'. -/
def slotsOwnCard : Claim7 := { stood := { row := slotsOwnRow, standIns := [], harness := (true, "116c23e38047d1defc6d80d440462d4d1bc7bfedd0c93d86220ba7b35d59f3dc"), looks := false }, kinds := [], alts := [], laidByText := true, laidKinds := [.data, .data, .pinned], laidTests := true, laidLooks := .later }
def SlotsOwnCardSaid : Prop := Claim7.holds Tryz.pinned (.plain (OpenSpec.ofChange slotsOwnSpec)) slotsOwnCard

/-- THE TIED CARD OF 'paymasterlaw12.SlotsTurned'. -/
def slotsTurnedCard : Claim7 := { stood := { row := slotsTurnedRow, standIns := [], harness := (true, "116c23e38047d1defc6d80d440462d4d1bc7bfedd0c93d86220ba7b35d59f3dc"), looks := false }, kinds := [], alts := [], laidByText := true, laidKinds := [.data, .data, .pinned], laidTests := true, laidLooks := .later }
def SlotsTurnedCardSaid : Prop := Claim7.holds Tryz.pinned (.plain (OpenSpec.ofChange slotsTurnedSpec)) slotsTurnedCard

/-- THE TIED CARD OF 'paymasterlaw12.SlotsNear'. -/
def slotsNearCard : Claim7 := { stood := { row := slotsNearRow, standIns := [], harness := (true, "116c23e38047d1defc6d80d440462d4d1bc7bfedd0c93d86220ba7b35d59f3dc"), looks := false }, kinds := [], alts := [], laidByText := true, laidKinds := [.data, .data, .pinned], laidTests := true, laidLooks := .later }
def SlotsNearCardSaid : Prop := Claim7.holds Tryz.pinned (.plain (OpenSpec.ofChange slotsNearSpec)) slotsNearCard

/-- THE TIED CARD OF 'paymasterlaw12.SlotsHold'. -/
def slotsHoldCard : Claim7 := { stood := { row := slotsHoldRow, standIns := [], harness := (true, "116c23e38047d1defc6d80d440462d4d1bc7bfedd0c93d86220ba7b35d59f3dc"), looks := false }, kinds := [], alts := [], laidByText := true, laidKinds := [.data, .data, .pinned], laidTests := true, laidLooks := .later }
def SlotsHoldCardSaid : Prop := Claim7.holds Tryz.pinned (.plain (OpenSpec.ofChange slotsHoldSpec)) slotsHoldCard

/-- THE SECOND FORM's CARD OF 'paymasterlaw12.SlotsPlaces'. -/
def slotsPlacesUptoCard : Claim7 := { stood := { row := slotsPlacesUptoRow, standIns := [], harness := (true, "116c23e38047d1defc6d80d440462d4d1bc7bfedd0c93d86220ba7b35d59f3dc"), looks := false }, kinds := [], alts := [], laidByText := true, laidKinds := [.data, .data, .pinned], laidTests := true, laidLooks := .later }
def SlotsPlacesUptoCardSaid : Prop := Claim7.holds Tryz.pinned (.plain (OpenSpec.upto slotsPlacesSpec)) slotsPlacesUptoCard

/-- THE SECOND FORM's CARD OF 'paymasterlaw12.SlotsOwn'. -/
def slotsOwnUptoCard : Claim7 := { stood := { row := slotsOwnUptoRow, standIns := [], harness := (true, "116c23e38047d1defc6d80d440462d4d1bc7bfedd0c93d86220ba7b35d59f3dc"), looks := false }, kinds := [], alts := [], laidByText := true, laidKinds := [.data, .data, .pinned], laidTests := true, laidLooks := .later }
def SlotsOwnUptoCardSaid : Prop := Claim7.holds Tryz.pinned (.plain (OpenSpec.upto slotsOwnSpec)) slotsOwnUptoCard

/-- THE SECOND FORM's CARD OF 'paymasterlaw12.SlotsTurned'. -/
def slotsTurnedUptoCard : Claim7 := { stood := { row := slotsTurnedUptoRow, standIns := [], harness := (true, "116c23e38047d1defc6d80d440462d4d1bc7bfedd0c93d86220ba7b35d59f3dc"), looks := false }, kinds := [], alts := [], laidByText := true, laidKinds := [.data, .data, .pinned], laidTests := true, laidLooks := .later }
def SlotsTurnedUptoCardSaid : Prop := Claim7.holds Tryz.pinned (.plain (OpenSpec.upto slotsTurnedSpec)) slotsTurnedUptoCard

/-- THE SECOND FORM's CARD OF 'paymasterlaw12.SlotsNear'. -/
def slotsNearUptoCard : Claim7 := { stood := { row := slotsNearUptoRow, standIns := [], harness := (true, "116c23e38047d1defc6d80d440462d4d1bc7bfedd0c93d86220ba7b35d59f3dc"), looks := false }, kinds := [], alts := [], laidByText := true, laidKinds := [.data, .data, .pinned], laidTests := true, laidLooks := .later }
def SlotsNearUptoCardSaid : Prop := Claim7.holds Tryz.pinned (.plain (OpenSpec.upto slotsNearSpec)) slotsNearUptoCard

/-- THE SECOND FORM's CARD OF 'paymasterlaw12.SlotsHold'. -/
def slotsHoldUptoCard : Claim7 := { stood := { row := slotsHoldUptoRow, standIns := [], harness := (true, "116c23e38047d1defc6d80d440462d4d1bc7bfedd0c93d86220ba7b35d59f3dc"), looks := false }, kinds := [], alts := [], laidByText := true, laidKinds := [.data, .data, .pinned], laidTests := true, laidLooks := .later }
def SlotsHoldUptoCardSaid : Prop := Claim7.holds Tryz.pinned (.plain (OpenSpec.upto slotsHoldSpec)) slotsHoldUptoCard
end Rows
end Go.Proofs.YtfijhbfdkcajjaaGreatDoor
