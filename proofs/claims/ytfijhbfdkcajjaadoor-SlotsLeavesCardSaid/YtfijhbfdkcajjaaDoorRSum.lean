/- The reference's Sum in the print's form. -/
import Derived.Test.YtfijhbfdkcajjaaDoorRefAll
import Derived.Test.YtfijhbfdkcajjaaDoorPrx0
namespace Go.Proofs.YtfijhbfdkcajjaaDoor.Pr
open Go.RowKit Go.Proofs.YtfijhbfdkcajjaaDoorW.PrintWords Go.Proofs.YtfijhbfdkcajjaaDoorW.PrintLast Go.Proofs.YtfijhbfdkcajjaaDoorW.PrintMore
set_option linter.unusedVariables false
def paymasterref05_Sum.f (a0 : ByteArray) : Option ByteArray := if a0.size < 1125899906842624 then some (Sh.shaSum a0) else none
theorem paymasterref05_Sum.calls (a0 r : ByteArray) (w : World) (h : paymasterref05_Sum.f a0 = some r) : Calls Tryd.prog 59 #[.string a0] w fun e w' => e = .returned (.string r) ∧ Below w.heap.size w w' := by
  unfold paymasterref05_Sum.f at h
  by_cases hc : a0.size < 1125899906842624
  · rw [if_pos hc] at h
    obtain rfl := Option.some.inj h
    exact Sh.refSum_calls a0 hc w
  · rw [if_neg hc] at h; cases h
end Go.Proofs.YtfijhbfdkcajjaaDoor.Pr
