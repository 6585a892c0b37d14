/- What the listed package-level tables hold, and that it stays so. -/
import Derived.Test.YtfijhbfdkcajjaaDoorProg
import Derived.Below
import Derived.Shelf.Unicode.DecodeSlow
import Derived.Test.YtfijhbfdkcajjaaDoorWWords
namespace Go.Proofs.YtfijhbfdkcajjaaDoor.Pr
open Go.RowKit Go.Proofs.YtfijhbfdkcajjaaDoorW.PrintWords
/-- What unicode/utf8's two tables hold. -/
def GTab (w : World) : Prop := Go.Lib.Utf8Tabs 0 1 w
theorem GTab.below {w w1 : World} (h : GTab w) (hb : Below w.heap.size w w1) : GTab w1 :=
  ⟨fun c hc => pw_cell_below hb (h.1 c hc), fun i hi => ⟨pw_cell_below hb (h.2 i hi).1, pw_cell_below hb (h.2 i hi).2⟩⟩
end Go.Proofs.YtfijhbfdkcajjaaDoor.Pr
