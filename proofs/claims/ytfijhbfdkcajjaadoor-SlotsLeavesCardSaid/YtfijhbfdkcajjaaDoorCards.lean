/-
  DERIVED. GIVEN WITH THE SEED: THE CARDS: each row of YtfijhbfdkcajjaaDoorRows.lean that lists a variable, with what it lists TIED to the program's text (the seventh form; the later family's looks); each row that meets fmt, with fmt's text TOLD by the authors' own Lean function (tested against real Go, not proved from fmt's source: count such statements apart). THE CARD IS WHAT COUNTS. Prove the row's statement (the work); the ties are given (YtfijhbfdkcajjaaDoorTie.lean); close each card by the builder's one call (the guide's Derived/Test/ToyasCard.lean, 'card_holds'). Laid BY PROGRAM, IN A SANDBOX (cutbox-door.mjs). By AI agents, Wed Nov 11 2026. No macro, syntax, notation, axiom, sorry.
-/
import Derived.Test.YtfijhbfdkcajjaaDoorRows
import GoSem.ClaimSeven
namespace Go.Proofs.YtfijhbfdkcajjaaDoor
namespace Rows

/-- THE TIED CARD OF 'paymasterlaw12.SlotsFinds'. -/
def slotsFindsCard : Claim7 := { stood := { row := slotsFindsRow, standIns := [], harness := (true, "c52afc201b6915fa44010745ff4e46a24c4a4903c181ca3c0ae3a1a80c960c8b"), looks := false }, kinds := [], alts := [], laidByText := true, laidKinds := [.data, .pinned], laidTests := true, laidLooks := .later }
def SlotsFindsCardSaid : Prop := Claim7.holds Tryd.pinned (.plain (OpenSpec.ofChange slotsFindsSpec)) slotsFindsCard

/-- THE TIED CARD OF 'paymasterlaw12.SlotsLeaves'. -/
def slotsLeavesCard : Claim7 := { stood := { row := slotsLeavesRow, standIns := [], harness := (true, "c52afc201b6915fa44010745ff4e46a24c4a4903c181ca3c0ae3a1a80c960c8b"), looks := false }, kinds := [], alts := [], laidByText := true, laidKinds := [.data, .data, .pinned], laidTests := true, laidLooks := .later }
def SlotsLeavesCardSaid : Prop := Claim7.holds Tryd.pinned (.plain (OpenSpec.ofChange slotsLeavesSpec)) slotsLeavesCard

/-- THE SECOND FORM's CARD OF 'paymasterlaw12.SlotsFinds'. -/
def slotsFindsUptoCard : Claim7 := { stood := { row := slotsFindsUptoRow, standIns := [], harness := (true, "c52afc201b6915fa44010745ff4e46a24c4a4903c181ca3c0ae3a1a80c960c8b"), looks := false }, kinds := [], alts := [], laidByText := true, laidKinds := [.data, .pinned], laidTests := true, laidLooks := .later }
def SlotsFindsUptoCardSaid : Prop := Claim7.holds Tryd.pinned (.plain (OpenSpec.upto slotsFindsSpec)) slotsFindsUptoCard

/-- THE SECOND FORM's CARD OF 'paymasterlaw12.SlotsLeaves'. -/
def slotsLeavesUptoCard : Claim7 := { stood := { row := slotsLeavesUptoRow, standIns := [], harness := (true, "c52afc201b6915fa44010745ff4e46a24c4a4903c181ca3c0ae3a1a80c960c8b"), looks := false }, kinds := [], alts := [], laidByText := true, laidKinds := [.data, .data, .pinned], laidTests := true, laidLooks := .later }
def SlotsLeavesUptoCardSaid : Prop := Claim7.holds Tryd.pinned (.plain (OpenSpec.upto slotsLeavesSpec)) slotsLeavesUptoCard
end Rows
end Go.Proofs.YtfijhbfdkcajjaaDoor
