/-
  DERIVED. GIVEN WITH THE SEED: THE CARDS: each row of YtpgkmjbfmmjjnaaGreatDoorRows.lean that lists a variable, with what it lists TIED to the program's text (the seventh form; the later family's looks); each row that meets fmt, with fmt's text TOLD by the authors' own Lean function (tested against real Go, not proved from fmt's source: count such statements apart). THE CARD IS WHAT COUNTS. Prove the row's statement (the work); the ties are given (YtpgkmjbfmmjjnaaGreatDoorTie.lean); close each card by the builder's one call (the guide's Derived/Test/ToyasCard.lean, 'card_holds'). Laid BY PROGRAM, IN A SANDBOX (cutbox-door.mjs). By AI agents, Wed Nov 11 2026. No macro, syntax, notation, axiom, sorry.
-/
import Derived.Test.YtpgkmjbfmmjjnaaGreatDoorRows
import GoSem.ClaimSeven
namespace Go.Proofs.YtpgkmjbfmmjjnaaGreatDoor
namespace Rows

/-- THE TIED CARD OF 'paymasterlaw29.ExchangeNil'. -/
def exchangeNilCard : Claim7 := { stood := { row := exchangeNilRow, standIns := [], harness := (true, "669acae5e7c8c22e8544c1552873674abd44aee583c4cdcb2a8a383ec2bdd9d9"), looks := true }, kinds := [], alts := [], laidByText := true, laidKinds := [.data, .data, .data, .data, .pinned], laidTests := true, laidLooks := .later }
def ExchangeNilCardSaid : Prop := Claim7.holds Tryz.pinned (.plain (OpenSpec.ofChange exchangeNilSpec)) exchangeNilCard

/-- THE TIED CARD OF 'paymasterlaw30.WorldNil'. -/
def worldNilCard : Claim7 := { stood := { row := worldNilRow, standIns := [], harness := (true, "669acae5e7c8c22e8544c1552873674abd44aee583c4cdcb2a8a383ec2bdd9d9"), looks := true }, kinds := [], alts := [], laidByText := true, laidKinds := [.data, .data, .data, .data, .pinned], laidTests := true, laidLooks := .later }
def WorldNilCardSaid : Prop := Claim7.holds Tryz.pinned (.plain (OpenSpec.ofChange worldNilSpec)) worldNilCard

/-- THE SECOND FORM's CARD OF 'paymasterlaw29.ExchangeNil'. -/
def exchangeNilUptoCard : Claim7 := { stood := { row := exchangeNilUptoRow, standIns := [], harness := (true, "669acae5e7c8c22e8544c1552873674abd44aee583c4cdcb2a8a383ec2bdd9d9"), looks := true }, kinds := [], alts := [], laidByText := true, laidKinds := [.data, .data, .data, .data, .pinned], laidTests := true, laidLooks := .later }
def ExchangeNilUptoCardSaid : Prop := Claim7.holds Tryz.pinned (.plain (OpenSpec.upto exchangeNilSpec)) exchangeNilUptoCard

/-- THE SECOND FORM's CARD OF 'paymasterlaw30.WorldNil'. -/
def worldNilUptoCard : Claim7 := { stood := { row := worldNilUptoRow, standIns := [], harness := (true, "669acae5e7c8c22e8544c1552873674abd44aee583c4cdcb2a8a383ec2bdd9d9"), looks := true }, kinds := [], alts := [], laidByText := true, laidKinds := [.data, .data, .data, .data, .pinned], laidTests := true, laidLooks := .later }
def WorldNilUptoCardSaid : Prop := Claim7.holds Tryz.pinned (.plain (OpenSpec.upto worldNilSpec)) worldNilUptoCard
end Rows
end Go.Proofs.YtpgkmjbfmmjjnaaGreatDoor
