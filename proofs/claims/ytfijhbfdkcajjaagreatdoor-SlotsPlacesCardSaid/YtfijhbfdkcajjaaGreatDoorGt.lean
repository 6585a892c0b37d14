/- What the listed package-level tables hold, and that it stays so. -/
import Derived.Shelf.Unicode.DecodeSlow
import Derived.Test.YtfijhbfdkcajjaaGreatDoorShaAll
namespace Go.Proofs.YtfijhbfdkcajjaaGreatDoor.Pr
open Go.RowKit Go.Proofs.YtfijhbfdkcajjaaGreatDoorW.PrintWords
/-- What unicode/utf8's two tables and the rounds' constants hold. -/
def GTab (w : World) : Prop := Go.Lib.Utf8Tabs 0 1 w ∧ Go.Proofs.YtfijhbfdkcajjaaGreatDoor.Sh.CTab w
theorem GTab.below {w w1 : World} (h : GTab w) (hb : Below w.heap.size w w1) : GTab w1 :=
  ⟨⟨fun c hc => pw_cell_below hb (h.1.1 c hc), fun i hi => ⟨pw_cell_below hb (h.1.2 i hi).1, pw_cell_below hb (h.1.2 i hi).2⟩⟩, h.2.below hb⟩
end Go.Proofs.YtfijhbfdkcajjaaGreatDoor.Pr
