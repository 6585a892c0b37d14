/- tag.Salt and tag.First in the print's form. -/
import Derived.Test.YtfijhbfdkcajjaaGreatDoorShaAll
import Derived.Test.YtfijhbfdkcajjaaGreatDoorGt
import Derived.Test.YtfijhbfdkcajjaaGreatDoorPrx0
/- tag.Salt in the print's form. -/
namespace Go.Proofs.YtfijhbfdkcajjaaGreatDoor.Pr
open Go.RowKit Go.Proofs.YtfijhbfdkcajjaaGreatDoorW.PrintWords Go.Proofs.YtfijhbfdkcajjaaGreatDoorW.PrintLast Go.Proofs.YtfijhbfdkcajjaaGreatDoorW.PrintMore
set_option linter.unusedVariables false
def tag_Salt.f (a0 a1 : ByteArray) : Option ByteArray := if a0.size < 140737488355328 ∧ a1.size ≤ 4294967200 then some ((Sh.macOf a0 (Sh.one1 3 ++ a1)).extract 0 16) else none
end Go.Proofs.YtfijhbfdkcajjaaGreatDoor.Pr

/- tag.First in the print's form. -/
namespace Go.Proofs.YtfijhbfdkcajjaaGreatDoor.Pr
open Go.RowKit Go.Proofs.YtfijhbfdkcajjaaGreatDoorW.PrintWords Go.Proofs.YtfijhbfdkcajjaaGreatDoorW.PrintLast Go.Proofs.YtfijhbfdkcajjaaGreatDoorW.PrintMore
set_option linter.unusedVariables false
def tag_First.f (a0 a1 : ByteArray) (a2 : Int) : Option Int := if (a0.size < 140737488355328 ∧ a1.size ≤ 4294967200) ∧ (0 ≤ a2 ∧ a2 ≤ 63) then some ((Sh.numOf a0 (Sh.one1 5 ++ a1) % 2 ^ a2.toNat : Nat) : Int) else none
end Go.Proofs.YtfijhbfdkcajjaaGreatDoor.Pr
