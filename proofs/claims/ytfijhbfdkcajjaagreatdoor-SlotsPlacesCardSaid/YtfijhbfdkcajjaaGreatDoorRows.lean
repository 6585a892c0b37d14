/-
  NARROWER THAN 'FOR EVERY INPUT', by the rows' own cells (each row's printed sentence says how): SlotsPlaces: laid · SlotsOwn: laid · SlotsTurned: laid · SlotsNear: laid · SlotsHold: laid.
  DERIVED. THE GIVEN ROWS OF THIS SEAT. 5 by the template 'for every input the law returns true; each argument reads behind the call as it read before'; 0 by the template 'total and deterministic' (their statements: YtfijhbfdkcajjaaGreatDoorTotals.lean).
  GIVEN WITH THE SEED: the statements are not yours to turn. If you find one false, say at which input.
  Laid BY PROGRAM, IN A SANDBOX (cutbox-rows.mjs): the forced cells as the released guide's own fill.sh prints them over the translation 0ebd7a4c5cb51b50… (all of the seat's roots in one cut). By AI agents, Wed Nov 11 2026. No macro, syntax, notation, axiom, sorry.
-/
import Derived.Test.YtfijhbfdkcajjaaGreatDoorChecked
import GoSem.PinnedTables
import GoSem.Claim
import GoSem.ClaimJoined
import GoSem.ClaimMapViews
import Derived.JoinedTies
import Derived.KernelRfl
namespace Go.Proofs.YtfijhbfdkcajjaaGreatDoor
/- THE CELL 'sum', in the pinned program and in every row, IS THE sha256 OF THE DUMP (.gsa) THAT YtfijhbfdkcajjaaGreatDoorProg.lean LOADS. Nothing in Lean hashes anything: it is a label: what it is worth is what the hold of that sum in a sandbox is worth. -/
noncomputable def Tryz.pinned : Pinned := { name := "ytfijhbfdkcajjaagreatdoor", sum := "0ebd7a4c5cb51b508b01c4b08e7977c2c0021550e5b6f01cd445390be0632b06", checked := Tryz.checked }
namespace Rows
def none {H : Type} : Left H := { results := [], args := [] }

/- WHAT THE LISTED PACKAGE-LEVEL VARIABLES READ AS WHEN THE CALL BEGINS. Each datum BY PROGRAM (the guide's laid-datum.mjs) off the statement by which the dump's own 'gosem.cut.vars' lays the variable. In a bare row this is a premise. The card (YtfijhbfdkcajjaaGreatDoorCards.lean) ties it to the program's text. -/
def laid_paymaster_block_constants {H : Type} : DataW H := .agg [.lit (.int .u32 1116352408), .lit (.int .u32 1899447441), .lit (.int .u32 3049323471), .lit (.int .u32 3921009573), .lit (.int .u32 961987163), .lit (.int .u32 1508970993), .lit (.int .u32 2453635748), .lit (.int .u32 2870763221), .lit (.int .u32 3624381080), .lit (.int .u32 310598401), .lit (.int .u32 607225278), .lit (.int .u32 1426881987), .lit (.int .u32 1925078388), .lit (.int .u32 2162078206), .lit (.int .u32 2614888103), .lit (.int .u32 3248222580), .lit (.int .u32 3835390401), .lit (.int .u32 4022224774), .lit (.int .u32 264347078), .lit (.int .u32 604807628), .lit (.int .u32 770255983), .lit (.int .u32 1249150122), .lit (.int .u32 1555081692), .lit (.int .u32 1996064986), .lit (.int .u32 2554220882), .lit (.int .u32 2821834349), .lit (.int .u32 2952996808), .lit (.int .u32 3210313671), .lit (.int .u32 3336571891), .lit (.int .u32 3584528711), .lit (.int .u32 113926993), .lit (.int .u32 338241895), .lit (.int .u32 666307205), .lit (.int .u32 773529912), .lit (.int .u32 1294757372), .lit (.int .u32 1396182291), .lit (.int .u32 1695183700), .lit (.int .u32 1986661051), .lit (.int .u32 2177026350), .lit (.int .u32 2456956037), .lit (.int .u32 2730485921), .lit (.int .u32 2820302411), .lit (.int .u32 3259730800), .lit (.int .u32 3345764771), .lit (.int .u32 3516065817), .lit (.int .u32 3600352804), .lit (.int .u32 4094571909), .lit (.int .u32 275423344), .lit (.int .u32 430227734), .lit (.int .u32 506948616), .lit (.int .u32 659060556), .lit (.int .u32 883997877), .lit (.int .u32 958139571), .lit (.int .u32 1322822218), .lit (.int .u32 1537002063), .lit (.int .u32 1747873779), .lit (.int .u32 1955562222), .lit (.int .u32 2024104815), .lit (.int .u32 2227730452), .lit (.int .u32 2361852424), .lit (.int .u32 2428436474), .lit (.int .u32 2756734187), .lit (.int .u32 3204031479), .lit (.int .u32 3329325298)]
def laid_unicode_utf8_acceptRanges {H : Type} : DataW H := .agg [.agg [.lit (.int .u8 128), .lit (.int .u8 191)], .agg [.lit (.int .u8 160), .lit (.int .u8 191)], .agg [.lit (.int .u8 128), .lit (.int .u8 159)], .agg [.lit (.int .u8 144), .lit (.int .u8 191)], .agg [.lit (.int .u8 128), .lit (.int .u8 143)], .agg [.lit (.int .u8 0), .lit (.int .u8 0)], .agg [.lit (.int .u8 0), .lit (.int .u8 0)], .agg [.lit (.int .u8 0), .lit (.int .u8 0)], .agg [.lit (.int .u8 0), .lit (.int .u8 0)], .agg [.lit (.int .u8 0), .lit (.int .u8 0)], .agg [.lit (.int .u8 0), .lit (.int .u8 0)], .agg [.lit (.int .u8 0), .lit (.int .u8 0)], .agg [.lit (.int .u8 0), .lit (.int .u8 0)], .agg [.lit (.int .u8 0), .lit (.int .u8 0)], .agg [.lit (.int .u8 0), .lit (.int .u8 0)], .agg [.lit (.int .u8 0), .lit (.int .u8 0)]]
/-- One of Go's own tables, pinned by name: the form's constant. -/
def laid_unicode_utf8_first : DataW Unit := Go.Pinned.utf8First

/-- 'paymasterlaw12.SlotsPlaces': WHATEVER THE INPUT: true; the input reads as it did. -/
def slotsPlacesSpec : ChangeSpec := { name := "slotsPlaces", fn := fun _ => fun
  | [d1, d2, d3, d4] => { results := [.lit (.bool true)], args := [d1, d2, d3, d4] }
  | _ => none }
def slotsPlacesRow : OpenClaim := { program := "ytfijhbfdkcajjaagreatdoor", sum := "0ebd7a4c5cb51b508b01c4b08e7977c2c0021550e5b6f01cd445390be0632b06", func := "paymaster/paymasterlaw12.SlotsPlaces", spec := "slotsPlaces", inPlace := ["internal/bytealg.IndexByteString", "internal/bytealg.IndexString", "internal/abi.NoEscape", "internal/bytealg.MakeNoZero"], unfollowed := true, recurses := true, named := ["unicode/utf8.first", "unicode/utf8.acceptRanges", "paymaster/block.constants", "internal/bytealg.MaxLen"], apart := false, laid := [("paymaster/block.constants", laid_paymaster_block_constants), ("unicode/utf8.acceptRanges", laid_unicode_utf8_acceptRanges), ("unicode/utf8.first", laid_unicode_utf8_first)] }
def SlotsPlacesSaid : Prop := slotsPlacesRow.holds Tryz.pinned (OpenSpec.ofChange slotsPlacesSpec)

/-- ITS FALSE NEIGHBOUR: 'it returns false'. Refute it at one input. -/
def slotsPlacesWrong : ChangeSpec := { name := "slotsPlaces", fn := fun _ => fun
  | [d1, d2, d3, d4] => { results := [.lit (.bool false)], args := [d1, d2, d3, d4] }
  | _ => none }
def SlotsPlacesWrongFalsely : Prop := slotsPlacesRow.holds Tryz.pinned (OpenSpec.ofChange slotsPlacesWrong)

/-- 'paymasterlaw12.SlotsOwn': WHATEVER THE INPUT: true; the input reads as it did. -/
def slotsOwnSpec : ChangeSpec := { name := "slotsOwn", fn := fun _ => fun
  | [d1, d2, d3, d4] => { results := [.lit (.bool true)], args := [d1, d2, d3, d4] }
  | _ => none }
def slotsOwnRow : OpenClaim := { program := "ytfijhbfdkcajjaagreatdoor", sum := "0ebd7a4c5cb51b508b01c4b08e7977c2c0021550e5b6f01cd445390be0632b06", func := "paymaster/paymasterlaw12.SlotsOwn", spec := "slotsOwn", inPlace := ["internal/bytealg.IndexByteString", "internal/bytealg.IndexString", "internal/abi.NoEscape", "internal/bytealg.MakeNoZero"], unfollowed := true, recurses := true, named := ["unicode/utf8.first", "unicode/utf8.acceptRanges", "paymaster/block.constants", "internal/bytealg.MaxLen"], apart := false, laid := [("paymaster/block.constants", laid_paymaster_block_constants), ("unicode/utf8.acceptRanges", laid_unicode_utf8_acceptRanges), ("unicode/utf8.first", laid_unicode_utf8_first)] }
def SlotsOwnSaid : Prop := slotsOwnRow.holds Tryz.pinned (OpenSpec.ofChange slotsOwnSpec)

/-- ITS FALSE NEIGHBOUR: 'it returns false'. Refute it at one input. -/
def slotsOwnWrong : ChangeSpec := { name := "slotsOwn", fn := fun _ => fun
  | [d1, d2, d3, d4] => { results := [.lit (.bool false)], args := [d1, d2, d3, d4] }
  | _ => none }
def SlotsOwnWrongFalsely : Prop := slotsOwnRow.holds Tryz.pinned (OpenSpec.ofChange slotsOwnWrong)

/-- 'paymasterlaw12.SlotsTurned': WHATEVER THE INPUT: true; the input reads as it did. -/
def slotsTurnedSpec : ChangeSpec := { name := "slotsTurned", fn := fun _ => fun
  | [d1, d2, d3, d4] => { results := [.lit (.bool true)], args := [d1, d2, d3, d4] }
  | _ => none }
def slotsTurnedRow : OpenClaim := { program := "ytfijhbfdkcajjaagreatdoor", sum := "0ebd7a4c5cb51b508b01c4b08e7977c2c0021550e5b6f01cd445390be0632b06", func := "paymaster/paymasterlaw12.SlotsTurned", spec := "slotsTurned", inPlace := ["internal/bytealg.IndexByteString", "internal/bytealg.IndexString", "internal/abi.NoEscape", "internal/bytealg.MakeNoZero"], unfollowed := true, recurses := true, named := ["unicode/utf8.first", "unicode/utf8.acceptRanges", "paymaster/block.constants", "internal/bytealg.MaxLen"], apart := false, laid := [("paymaster/block.constants", laid_paymaster_block_constants), ("unicode/utf8.acceptRanges", laid_unicode_utf8_acceptRanges), ("unicode/utf8.first", laid_unicode_utf8_first)] }
def SlotsTurnedSaid : Prop := slotsTurnedRow.holds Tryz.pinned (OpenSpec.ofChange slotsTurnedSpec)

/-- ITS FALSE NEIGHBOUR: 'it returns false'. Refute it at one input. -/
def slotsTurnedWrong : ChangeSpec := { name := "slotsTurned", fn := fun _ => fun
  | [d1, d2, d3, d4] => { results := [.lit (.bool false)], args := [d1, d2, d3, d4] }
  | _ => none }
def SlotsTurnedWrongFalsely : Prop := slotsTurnedRow.holds Tryz.pinned (OpenSpec.ofChange slotsTurnedWrong)

/-- 'paymasterlaw12.SlotsNear': WHATEVER THE INPUT: true; the input reads as it did. -/
def slotsNearSpec : ChangeSpec := { name := "slotsNear", fn := fun _ => fun
  | [d1, d2, d3, d4] => { results := [.lit (.bool true)], args := [d1, d2, d3, d4] }
  | _ => none }
def slotsNearRow : OpenClaim := { program := "ytfijhbfdkcajjaagreatdoor", sum := "0ebd7a4c5cb51b508b01c4b08e7977c2c0021550e5b6f01cd445390be0632b06", func := "paymaster/paymasterlaw12.SlotsNear", spec := "slotsNear", inPlace := ["internal/bytealg.IndexByteString", "internal/bytealg.IndexString", "internal/abi.NoEscape", "internal/bytealg.MakeNoZero"], unfollowed := true, recurses := true, named := ["unicode/utf8.first", "unicode/utf8.acceptRanges", "paymaster/block.constants", "internal/bytealg.MaxLen"], apart := false, laid := [("paymaster/block.constants", laid_paymaster_block_constants), ("unicode/utf8.acceptRanges", laid_unicode_utf8_acceptRanges), ("unicode/utf8.first", laid_unicode_utf8_first)] }
def SlotsNearSaid : Prop := slotsNearRow.holds Tryz.pinned (OpenSpec.ofChange slotsNearSpec)

/-- ITS FALSE NEIGHBOUR: 'it returns false'. Refute it at one input. -/
def slotsNearWrong : ChangeSpec := { name := "slotsNear", fn := fun _ => fun
  | [d1, d2, d3, d4] => { results := [.lit (.bool false)], args := [d1, d2, d3, d4] }
  | _ => none }
def SlotsNearWrongFalsely : Prop := slotsNearRow.holds Tryz.pinned (OpenSpec.ofChange slotsNearWrong)

/-- 'paymasterlaw12.SlotsHold': WHATEVER THE INPUT: true; the input reads as it did. -/
def slotsHoldSpec : ChangeSpec := { name := "slotsHold", fn := fun _ => fun
  | [d1, d2, d3] => { results := [.lit (.bool true)], args := [d1, d2, d3] }
  | _ => none }
def slotsHoldRow : OpenClaim := { program := "ytfijhbfdkcajjaagreatdoor", sum := "0ebd7a4c5cb51b508b01c4b08e7977c2c0021550e5b6f01cd445390be0632b06", func := "paymaster/paymasterlaw12.SlotsHold", spec := "slotsHold", inPlace := ["internal/bytealg.IndexByteString", "internal/bytealg.IndexString", "internal/abi.NoEscape", "internal/bytealg.MakeNoZero", "math/bits.Add64"], unfollowed := true, recurses := true, named := ["unicode/utf8.first", "unicode/utf8.acceptRanges", "paymaster/block.constants", "internal/bytealg.MaxLen"], apart := false, laid := [("paymaster/block.constants", laid_paymaster_block_constants), ("unicode/utf8.acceptRanges", laid_unicode_utf8_acceptRanges), ("unicode/utf8.first", laid_unicode_utf8_first)] }
def SlotsHoldSaid : Prop := slotsHoldRow.holds Tryz.pinned (OpenSpec.ofChange slotsHoldSpec)

/-- ITS FALSE NEIGHBOUR: 'it returns false'. Refute it at one input. -/
def slotsHoldWrong : ChangeSpec := { name := "slotsHold", fn := fun _ => fun
  | [d1, d2, d3] => { results := [.lit (.bool false)], args := [d1, d2, d3] }
  | _ => none }
def SlotsHoldWrongFalsely : Prop := slotsHoldRow.holds Tryz.pinned (OpenSpec.ofChange slotsHoldWrong)

/- THE SECOND FORM. 'bulk': how many values and letters a reading holds, each counted each time it is reached (what is shared counts as often as it is met; a slice's spare places count too). A statement '..UptoSaid' is the law's where the arguments, and the package variables that the reading takes, are together of bulk at most 1048576: NARROWER than '..Said'. Prove '..Said' where nothing that the law and all that it calls make is longer than what came in: it says more and counts as full. Else prove '..UptoSaid'. A law counts once. -/
mutual
def uptoBulk {H : Type} : DataW H → Nat
  | .lit (.string bytes) => bytes.length + 1
  | .lit _ => 1
  | .nil => 1
  | .ptr d => uptoBulk d + 1
  | .slice elems spare => uptoBulkAll elems + uptoBulkAll spare + 1
  | .agg parts => uptoBulkAll parts + 1
  | .iface _ d => uptoBulk d + 1
  | .map entries => uptoBulkEntries entries + 1
  | .held _ => 1
def uptoBulkAll {H : Type} : List (DataW H) → Nat
  | [] => 0
  | d :: r => uptoBulk d + uptoBulkAll r
def uptoBulkEntries {H : Type} : List (Lit × DataW H) → Nat
  | [] => 0
  | x :: r => uptoBulkEntry x + uptoBulkEntries r
def uptoBulkEntry {H : Type} : Lit × DataW H → Nat
  | (.string bytes, d) => bytes.length + uptoBulk d + 1
  | (_, d) => uptoBulk d + 1
 end
def uptoSmall : (H : Type) → List (DataW H) → Bool := fun _ ds => decide (uptoBulkAll ds ≤ 1048576)
def OpenSpec.upto (s : _root_.Go.ChangeSpec) : _root_.Go.OpenSpec := { _root_.Go.OpenSpec.ofChange s with cond := some uptoSmall }

/-- 'paymasterlaw12.SlotsPlaces', WHERE WHAT IT READS IS OF BULK AT MOST 1048576: true; the input reads as it did. -/
def slotsPlacesUptoRow : OpenClaim := { program := "ytfijhbfdkcajjaagreatdoor", sum := "0ebd7a4c5cb51b508b01c4b08e7977c2c0021550e5b6f01cd445390be0632b06", func := "paymaster/paymasterlaw12.SlotsPlaces", spec := "slotsPlaces", inPlace := ["internal/bytealg.IndexByteString", "internal/bytealg.IndexString", "internal/abi.NoEscape", "internal/bytealg.MakeNoZero"], unfollowed := true, recurses := true, named := ["unicode/utf8.first", "unicode/utf8.acceptRanges", "paymaster/block.constants", "internal/bytealg.MaxLen"], apart := false, laid := [("paymaster/block.constants", laid_paymaster_block_constants), ("unicode/utf8.acceptRanges", laid_unicode_utf8_acceptRanges), ("unicode/utf8.first", laid_unicode_utf8_first)], narrowed := true }
def SlotsPlacesUptoSaid : Prop := slotsPlacesUptoRow.holds Tryz.pinned (OpenSpec.upto slotsPlacesSpec)

/-- 'paymasterlaw12.SlotsOwn', WHERE WHAT IT READS IS OF BULK AT MOST 1048576: true; the input reads as it did. -/
def slotsOwnUptoRow : OpenClaim := { program := "ytfijhbfdkcajjaagreatdoor", sum := "0ebd7a4c5cb51b508b01c4b08e7977c2c0021550e5b6f01cd445390be0632b06", func := "paymaster/paymasterlaw12.SlotsOwn", spec := "slotsOwn", inPlace := ["internal/bytealg.IndexByteString", "internal/bytealg.IndexString", "internal/abi.NoEscape", "internal/bytealg.MakeNoZero"], unfollowed := true, recurses := true, named := ["unicode/utf8.first", "unicode/utf8.acceptRanges", "paymaster/block.constants", "internal/bytealg.MaxLen"], apart := false, laid := [("paymaster/block.constants", laid_paymaster_block_constants), ("unicode/utf8.acceptRanges", laid_unicode_utf8_acceptRanges), ("unicode/utf8.first", laid_unicode_utf8_first)], narrowed := true }
def SlotsOwnUptoSaid : Prop := slotsOwnUptoRow.holds Tryz.pinned (OpenSpec.upto slotsOwnSpec)

/-- 'paymasterlaw12.SlotsTurned', WHERE WHAT IT READS IS OF BULK AT MOST 1048576: true; the input reads as it did. -/
def slotsTurnedUptoRow : OpenClaim := { program := "ytfijhbfdkcajjaagreatdoor", sum := "0ebd7a4c5cb51b508b01c4b08e7977c2c0021550e5b6f01cd445390be0632b06", func := "paymaster/paymasterlaw12.SlotsTurned", spec := "slotsTurned", inPlace := ["internal/bytealg.IndexByteString", "internal/bytealg.IndexString", "internal/abi.NoEscape", "internal/bytealg.MakeNoZero"], unfollowed := true, recurses := true, named := ["unicode/utf8.first", "unicode/utf8.acceptRanges", "paymaster/block.constants", "internal/bytealg.MaxLen"], apart := false, laid := [("paymaster/block.constants", laid_paymaster_block_constants), ("unicode/utf8.acceptRanges", laid_unicode_utf8_acceptRanges), ("unicode/utf8.first", laid_unicode_utf8_first)], narrowed := true }
def SlotsTurnedUptoSaid : Prop := slotsTurnedUptoRow.holds Tryz.pinned (OpenSpec.upto slotsTurnedSpec)

/-- 'paymasterlaw12.SlotsNear', WHERE WHAT IT READS IS OF BULK AT MOST 1048576: true; the input reads as it did. -/
def slotsNearUptoRow : OpenClaim := { program := "ytfijhbfdkcajjaagreatdoor", sum := "0ebd7a4c5cb51b508b01c4b08e7977c2c0021550e5b6f01cd445390be0632b06", func := "paymaster/paymasterlaw12.SlotsNear", spec := "slotsNear", inPlace := ["internal/bytealg.IndexByteString", "internal/bytealg.IndexString", "internal/abi.NoEscape", "internal/bytealg.MakeNoZero"], unfollowed := true, recurses := true, named := ["unicode/utf8.first", "unicode/utf8.acceptRanges", "paymaster/block.constants", "internal/bytealg.MaxLen"], apart := false, laid := [("paymaster/block.constants", laid_paymaster_block_constants), ("unicode/utf8.acceptRanges", laid_unicode_utf8_acceptRanges), ("unicode/utf8.first", laid_unicode_utf8_first)], narrowed := true }
def SlotsNearUptoSaid : Prop := slotsNearUptoRow.holds Tryz.pinned (OpenSpec.upto slotsNearSpec)

/-- 'paymasterlaw12.SlotsHold', WHERE WHAT IT READS IS OF BULK AT MOST 1048576: true; the input reads as it did. -/
def slotsHoldUptoRow : OpenClaim := { program := "ytfijhbfdkcajjaagreatdoor", sum := "0ebd7a4c5cb51b508b01c4b08e7977c2c0021550e5b6f01cd445390be0632b06", func := "paymaster/paymasterlaw12.SlotsHold", spec := "slotsHold", inPlace := ["internal/bytealg.IndexByteString", "internal/bytealg.IndexString", "internal/abi.NoEscape", "internal/bytealg.MakeNoZero", "math/bits.Add64"], unfollowed := true, recurses := true, named := ["unicode/utf8.first", "unicode/utf8.acceptRanges", "paymaster/block.constants", "internal/bytealg.MaxLen"], apart := false, laid := [("paymaster/block.constants", laid_paymaster_block_constants), ("unicode/utf8.acceptRanges", laid_unicode_utf8_acceptRanges), ("unicode/utf8.first", laid_unicode_utf8_first)], narrowed := true }
def SlotsHoldUptoSaid : Prop := slotsHoldUptoRow.holds Tryz.pinned (OpenSpec.upto slotsHoldSpec)

end Rows
end Go.Proofs.YtfijhbfdkcajjaaGreatDoor
