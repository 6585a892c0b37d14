/- tag.Salt in the print's form. -/
import Derived.Test.YtfijhbfdkcajjaaGreatDoorShaAll
import Derived.Test.YtfijhbfdkcajjaaGreatDoorGt
import Derived.Test.YtfijhbfdkcajjaaGreatDoorPrx0
namespace Go.Proofs.YtfijhbfdkcajjaaGreatDoor.Pr
open Go.RowKit Go.Proofs.YtfijhbfdkcajjaaGreatDoorW.PrintWords Go.Proofs.YtfijhbfdkcajjaaGreatDoorW.PrintLast Go.Proofs.YtfijhbfdkcajjaaGreatDoorW.PrintMore
set_option linter.unusedVariables false
def tag_Salt.f (a0 a1 : ByteArray) : Option ByteArray := if a0.size < 140737488355328 ∧ a1.size ≤ 4294967200 then some ((Sh.macOf a0 (Sh.one1 3 ++ a1)).extract 0 16) else none
theorem tag_Salt.calls (a0 a1 : ByteArray) (r : ByteArray) (w : World) (hGT : GTab w) (h : tag_Salt.f a0 a1 = some r) : Calls Tryz.prog 17 #[.string a0, .string a1] w fun e w' => e = .returned (.string r) ∧ Below w.heap.size w w' := by
  unfold tag_Salt.f at h
  by_cases hc : a0.size < 140737488355328 ∧ a1.size ≤ 4294967200
  · rw [if_pos hc] at h
    have h := Option.some.inj h
    subst h
    exact Sh.salt_calls a0 a1 w hGT.2 hc.1 hc.2
  · rw [if_neg hc] at h; cases h
end Go.Proofs.YtfijhbfdkcajjaaGreatDoor.Pr
