/- SlotsHold's walk, and its answer. -/
import Derived.Test.YtfijhbfdkcajjaaGreatDoorHold
import Derived.Test.YtfijhbfdkcajjaaGreatDoorPureH
import Derived.Test.YtfijhbfdkcajjaaGreatDoorAccZ
namespace Go.Proofs.YtfijhbfdkcajjaaGreatDoor.Pr
open Go.RowKit Go.Proofs.YtfijhbfdkcajjaaGreatDoorW.PrintWords Go.Proofs.YtfijhbfdkcajjaaGreatDoorW.PrintLast Go.Proofs.YtfijhbfdkcajjaaGreatDoorW.PrintMore
set_option linter.unusedVariables false
theorem slotsHold_walk (a0 : ByteArray) (a1 : Int) (A : Option Addr) (len cap : Nat) (l : List S41) (w : World) (hGT : GTab w) (h0 : a0.size ≤ 140737488351232) (h1 : (Lit.int .i64 a1).wf = true) (h2 : AccRow w A len cap l) :
    Calls Tryz.prog 7 #[.string a0, .int .i64 a1, .slice A len cap] w fun e w' => e = .returned (.bool true) ∧ Below w.heap.size w w' := by
  obtain ⟨rfl, hc, hr, hw⟩ := h2
  obtain ⟨k, h⟩ := hold_pure a0 a1 l hw
  exact paymasterlaw12_SlotsHold.calls k a0 a1 A cap l true w hGT hr hc h rfl
end Go.Proofs.YtfijhbfdkcajjaaGreatDoor.Pr
