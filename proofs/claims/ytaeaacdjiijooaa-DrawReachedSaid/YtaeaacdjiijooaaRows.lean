/-
  No cell of these rows narrows 'for every input' (looked for: loops, veiled, ifaces, maps, wideKeys, modest, calm, conditions, laid).
  DERIVED. THE GIVEN ROWS OF THIS SEAT. 7 by the template 'for every input the law returns true; each argument reads behind the call as it read before'; 0 by the template 'total and deterministic' (their statements: YtaeaacdjiijooaaTotals.lean).
  GIVEN WITH THE SEED: the statements are not yours to turn. If you find one false, say at which input.
  Laid BY PROGRAM, IN A SANDBOX (cutbox-rows.mjs): the forced cells as the released guide's own fill.sh prints them over the translation e41f770b4977c535… (all of the seat's roots in one cut). By AI agents, Wed Nov 11 2026. No macro, syntax, notation, axiom, sorry.
-/
import Derived.Test.YtaeaacdjiijooaaChecked
import GoSem.Claim
import GoSem.ClaimJoined
import GoSem.ClaimMapViews
import Derived.JoinedTies
import Derived.KernelRfl
namespace Go.Proofs.Ytaeaacdjiijooaa
/- THE CELL 'sum', in the pinned program and in every row, IS THE sha256 OF THE DUMP (.gsa) THAT YtaeaacdjiijooaaProg.lean LOADS. Nothing in Lean hashes anything: it is a label: what it is worth is what the hold of that sum in a sandbox is worth. -/
noncomputable def Try.pinned : Pinned := { name := "ytaeaacdjiijooaa", sum := "e41f770b4977c535a2445929c7e91f3c9c64511f842bf8f89ca67d500926b172", checked := Try.checked }
namespace Rows
def none {H : Type} : Left H := { results := [], args := [] }

/-- 'paymasterlaw22.DrawPairs': WHATEVER THE INPUT: true; the input reads as it did. -/
def drawPairsSpec : ChangeSpec := { name := "drawPairs", fn := fun _ => fun
  | [d1, d2, d3] => { results := [.lit (.bool true)], args := [d1, d2, d3] }
  | _ => none }
def drawPairsRow : OpenClaim := { program := "ytaeaacdjiijooaa", sum := "e41f770b4977c535a2445929c7e91f3c9c64511f842bf8f89ca67d500926b172", func := "paymaster/paymasterlaw22.DrawPairs", spec := "drawPairs", apart := false }
def DrawPairsSaid : Prop := drawPairsRow.holds Try.pinned (OpenSpec.ofChange drawPairsSpec)

/-- ITS FALSE NEIGHBOUR: 'it returns false'. Refute it at one input. -/
def drawPairsWrong : ChangeSpec := { name := "drawPairs", fn := fun _ => fun
  | [d1, d2, d3] => { results := [.lit (.bool false)], args := [d1, d2, d3] }
  | _ => none }
def DrawPairsWrongFalsely : Prop := drawPairsRow.holds Try.pinned (OpenSpec.ofChange drawPairsWrong)

/-- 'paymasterlaw22.DrawPlans': WHATEVER THE INPUT: true; the input reads as it did. -/
def drawPlansSpec : ChangeSpec := { name := "drawPlans", fn := fun _ => fun
  | [d1, d2] => { results := [.lit (.bool true)], args := [d1, d2] }
  | _ => none }
def drawPlansRow : OpenClaim := { program := "ytaeaacdjiijooaa", sum := "e41f770b4977c535a2445929c7e91f3c9c64511f842bf8f89ca67d500926b172", func := "paymaster/paymasterlaw22.DrawPlans", spec := "drawPlans", leaving := true, apart := false }
def DrawPlansSaid : Prop := drawPlansRow.holds Try.pinned (OpenSpec.ofChange drawPlansSpec)

/-- ITS FALSE NEIGHBOUR: 'it returns false'. Refute it at one input. -/
def drawPlansWrong : ChangeSpec := { name := "drawPlans", fn := fun _ => fun
  | [d1, d2] => { results := [.lit (.bool false)], args := [d1, d2] }
  | _ => none }
def DrawPlansWrongFalsely : Prop := drawPlansRow.holds Try.pinned (OpenSpec.ofChange drawPlansWrong)

/-- 'paymasterlaw20.CoverAround': WHATEVER THE INPUT: true; the input reads as it did. -/
def coverAroundSpec : ChangeSpec := { name := "coverAround", fn := fun _ => fun
  | [d1, d2] => { results := [.lit (.bool true)], args := [d1, d2] }
  | _ => none }
def coverAroundRow : OpenClaim := { program := "ytaeaacdjiijooaa", sum := "e41f770b4977c535a2445929c7e91f3c9c64511f842bf8f89ca67d500926b172", func := "paymaster/paymasterlaw20.CoverAround", spec := "coverAround", unfollowed := true, recurses := true, leaving := true, apart := false }
def CoverAroundSaid : Prop := coverAroundRow.holds Try.pinned (OpenSpec.ofChange coverAroundSpec)

/-- ITS FALSE NEIGHBOUR: 'it returns false'. Refute it at one input. -/
def coverAroundWrong : ChangeSpec := { name := "coverAround", fn := fun _ => fun
  | [d1, d2] => { results := [.lit (.bool false)], args := [d1, d2] }
  | _ => none }
def CoverAroundWrongFalsely : Prop := coverAroundRow.holds Try.pinned (OpenSpec.ofChange coverAroundWrong)

/-- 'paymasterlaw22.DrawGaps': WHATEVER THE INPUT: true; the input reads as it did. -/
def drawGapsSpec : ChangeSpec := { name := "drawGaps", fn := fun _ => fun
  | [d1, d2, d3] => { results := [.lit (.bool true)], args := [d1, d2, d3] }
  | _ => none }
def drawGapsRow : OpenClaim := { program := "ytaeaacdjiijooaa", sum := "e41f770b4977c535a2445929c7e91f3c9c64511f842bf8f89ca67d500926b172", func := "paymaster/paymasterlaw22.DrawGaps", spec := "drawGaps", unfollowed := true, recurses := true, leaving := true, apart := false }
def DrawGapsSaid : Prop := drawGapsRow.holds Try.pinned (OpenSpec.ofChange drawGapsSpec)

/-- ITS FALSE NEIGHBOUR: 'it returns false'. Refute it at one input. -/
def drawGapsWrong : ChangeSpec := { name := "drawGaps", fn := fun _ => fun
  | [d1, d2, d3] => { results := [.lit (.bool false)], args := [d1, d2, d3] }
  | _ => none }
def DrawGapsWrongFalsely : Prop := drawGapsRow.holds Try.pinned (OpenSpec.ofChange drawGapsWrong)

/-- 'paymasterlaw22.DrawAlways': WHATEVER THE INPUT: true; the input reads as it did. -/
def drawAlwaysSpec : ChangeSpec := { name := "drawAlways", fn := fun _ => fun
  | [d1, d2, d3, d4, d5] => { results := [.lit (.bool true)], args := [d1, d2, d3, d4, d5] }
  | _ => none }
def drawAlwaysRow : OpenClaim := { program := "ytaeaacdjiijooaa", sum := "e41f770b4977c535a2445929c7e91f3c9c64511f842bf8f89ca67d500926b172", func := "paymaster/paymasterlaw22.DrawAlways", spec := "drawAlways", unfollowed := true, recurses := true, leaving := true, apart := false }
def DrawAlwaysSaid : Prop := drawAlwaysRow.holds Try.pinned (OpenSpec.ofChange drawAlwaysSpec)

/-- ITS FALSE NEIGHBOUR: 'it returns false'. Refute it at one input. -/
def drawAlwaysWrong : ChangeSpec := { name := "drawAlways", fn := fun _ => fun
  | [d1, d2, d3, d4, d5] => { results := [.lit (.bool false)], args := [d1, d2, d3, d4, d5] }
  | _ => none }
def DrawAlwaysWrongFalsely : Prop := drawAlwaysRow.holds Try.pinned (OpenSpec.ofChange drawAlwaysWrong)

/-- 'paymasterlaw22.DrawReached': WHATEVER THE INPUT: true; the input reads as it did. -/
def drawReachedSpec : ChangeSpec := { name := "drawReached", fn := fun _ => fun
  | [d1, d2, d3] => { results := [.lit (.bool true)], args := [d1, d2, d3] }
  | _ => none }
def drawReachedRow : OpenClaim := { program := "ytaeaacdjiijooaa", sum := "e41f770b4977c535a2445929c7e91f3c9c64511f842bf8f89ca67d500926b172", func := "paymaster/paymasterlaw22.DrawReached", spec := "drawReached", unfollowed := true, recurses := true, leaving := true, apart := false }
def DrawReachedSaid : Prop := drawReachedRow.holds Try.pinned (OpenSpec.ofChange drawReachedSpec)

/-- ITS FALSE NEIGHBOUR: 'it returns false'. Refute it at one input. -/
def drawReachedWrong : ChangeSpec := { name := "drawReached", fn := fun _ => fun
  | [d1, d2, d3] => { results := [.lit (.bool false)], args := [d1, d2, d3] }
  | _ => none }
def DrawReachedWrongFalsely : Prop := drawReachedRow.holds Try.pinned (OpenSpec.ofChange drawReachedWrong)

/-- 'paymasterlaw22.DrawMore': WHATEVER THE INPUT: true; the input reads as it did. -/
def drawMoreSpec : ChangeSpec := { name := "drawMore", fn := fun _ => fun
  | [d1, d2, d3, d4] => { results := [.lit (.bool true)], args := [d1, d2, d3, d4] }
  | _ => none }
def drawMoreRow : OpenClaim := { program := "ytaeaacdjiijooaa", sum := "e41f770b4977c535a2445929c7e91f3c9c64511f842bf8f89ca67d500926b172", func := "paymaster/paymasterlaw22.DrawMore", spec := "drawMore", unfollowed := true, recurses := true, leaving := true, apart := false }
def DrawMoreSaid : Prop := drawMoreRow.holds Try.pinned (OpenSpec.ofChange drawMoreSpec)

/-- ITS FALSE NEIGHBOUR: 'it returns false'. Refute it at one input. -/
def drawMoreWrong : ChangeSpec := { name := "drawMore", fn := fun _ => fun
  | [d1, d2, d3, d4] => { results := [.lit (.bool false)], args := [d1, d2, d3, d4] }
  | _ => none }
def DrawMoreWrongFalsely : Prop := drawMoreRow.holds Try.pinned (OpenSpec.ofChange drawMoreWrong)

/- THE SECOND FORM. 'bulk': how many values and letters a reading holds, each counted each time it is reached (what is shared counts as often as it is met; a slice's spare places count too). A statement '..UptoSaid' is the law's where the arguments, and the package variables that the reading takes, are together of bulk at most 1048576: NARROWER than '..Said'. Prove '..Said' where nothing that the law and all that it calls make is longer than what came in: it says more and counts as full. Else prove '..UptoSaid'. A law counts once. -/
mutual
def uptoBulk {H : Type} : DataW H → Nat
  | .lit (.string bytes) => bytes.length + 1
  | .lit _ => 1
  | .nil => 1
  | .ptr d => uptoBulk d + 1
  | .slice elems spare => uptoBulkAll elems + uptoBulkAll spare + 1
  | .agg parts => uptoBulkAll parts + 1
  | .iface _ d => uptoBulk d + 1
  | .map entries => uptoBulkEntries entries + 1
  | .held _ => 1
def uptoBulkAll {H : Type} : List (DataW H) → Nat
  | [] => 0
  | d :: r => uptoBulk d + uptoBulkAll r
def uptoBulkEntries {H : Type} : List (Lit × DataW H) → Nat
  | [] => 0
  | x :: r => uptoBulkEntry x + uptoBulkEntries r
def uptoBulkEntry {H : Type} : Lit × DataW H → Nat
  | (.string bytes, d) => bytes.length + uptoBulk d + 1
  | (_, d) => uptoBulk d + 1
 end
def uptoSmall : (H : Type) → List (DataW H) → Bool := fun _ ds => decide (uptoBulkAll ds ≤ 1048576)
def OpenSpec.upto (s : _root_.Go.ChangeSpec) : _root_.Go.OpenSpec := { _root_.Go.OpenSpec.ofChange s with cond := some uptoSmall }

/-- 'paymasterlaw22.DrawPairs', WHERE WHAT IT READS IS OF BULK AT MOST 1048576: true; the input reads as it did. -/
def drawPairsUptoRow : OpenClaim := { program := "ytaeaacdjiijooaa", sum := "e41f770b4977c535a2445929c7e91f3c9c64511f842bf8f89ca67d500926b172", func := "paymaster/paymasterlaw22.DrawPairs", spec := "drawPairs", apart := false, narrowed := true }
def DrawPairsUptoSaid : Prop := drawPairsUptoRow.holds Try.pinned (OpenSpec.upto drawPairsSpec)

/-- 'paymasterlaw22.DrawPlans', WHERE WHAT IT READS IS OF BULK AT MOST 1048576: true; the input reads as it did. -/
def drawPlansUptoRow : OpenClaim := { program := "ytaeaacdjiijooaa", sum := "e41f770b4977c535a2445929c7e91f3c9c64511f842bf8f89ca67d500926b172", func := "paymaster/paymasterlaw22.DrawPlans", spec := "drawPlans", leaving := true, apart := false, narrowed := true }
def DrawPlansUptoSaid : Prop := drawPlansUptoRow.holds Try.pinned (OpenSpec.upto drawPlansSpec)

/-- 'paymasterlaw20.CoverAround', WHERE WHAT IT READS IS OF BULK AT MOST 1048576: true; the input reads as it did. -/
def coverAroundUptoRow : OpenClaim := { program := "ytaeaacdjiijooaa", sum := "e41f770b4977c535a2445929c7e91f3c9c64511f842bf8f89ca67d500926b172", func := "paymaster/paymasterlaw20.CoverAround", spec := "coverAround", unfollowed := true, recurses := true, leaving := true, apart := false, narrowed := true }
def CoverAroundUptoSaid : Prop := coverAroundUptoRow.holds Try.pinned (OpenSpec.upto coverAroundSpec)

/-- 'paymasterlaw22.DrawGaps', WHERE WHAT IT READS IS OF BULK AT MOST 1048576: true; the input reads as it did. -/
def drawGapsUptoRow : OpenClaim := { program := "ytaeaacdjiijooaa", sum := "e41f770b4977c535a2445929c7e91f3c9c64511f842bf8f89ca67d500926b172", func := "paymaster/paymasterlaw22.DrawGaps", spec := "drawGaps", unfollowed := true, recurses := true, leaving := true, apart := false, narrowed := true }
def DrawGapsUptoSaid : Prop := drawGapsUptoRow.holds Try.pinned (OpenSpec.upto drawGapsSpec)

/-- 'paymasterlaw22.DrawAlways', WHERE WHAT IT READS IS OF BULK AT MOST 1048576: true; the input reads as it did. -/
def drawAlwaysUptoRow : OpenClaim := { program := "ytaeaacdjiijooaa", sum := "e41f770b4977c535a2445929c7e91f3c9c64511f842bf8f89ca67d500926b172", func := "paymaster/paymasterlaw22.DrawAlways", spec := "drawAlways", unfollowed := true, recurses := true, leaving := true, apart := false, narrowed := true }
def DrawAlwaysUptoSaid : Prop := drawAlwaysUptoRow.holds Try.pinned (OpenSpec.upto drawAlwaysSpec)

/-- 'paymasterlaw22.DrawReached', WHERE WHAT IT READS IS OF BULK AT MOST 1048576: true; the input reads as it did. -/
def drawReachedUptoRow : OpenClaim := { program := "ytaeaacdjiijooaa", sum := "e41f770b4977c535a2445929c7e91f3c9c64511f842bf8f89ca67d500926b172", func := "paymaster/paymasterlaw22.DrawReached", spec := "drawReached", unfollowed := true, recurses := true, leaving := true, apart := false, narrowed := true }
def DrawReachedUptoSaid : Prop := drawReachedUptoRow.holds Try.pinned (OpenSpec.upto drawReachedSpec)

/-- 'paymasterlaw22.DrawMore', WHERE WHAT IT READS IS OF BULK AT MOST 1048576: true; the input reads as it did. -/
def drawMoreUptoRow : OpenClaim := { program := "ytaeaacdjiijooaa", sum := "e41f770b4977c535a2445929c7e91f3c9c64511f842bf8f89ca67d500926b172", func := "paymaster/paymasterlaw22.DrawMore", spec := "drawMore", unfollowed := true, recurses := true, leaving := true, apart := false, narrowed := true }
def DrawMoreUptoSaid : Prop := drawMoreUptoRow.holds Try.pinned (OpenSpec.upto drawMoreSpec)

end Rows
end Go.Proofs.Ytaeaacdjiijooaa
