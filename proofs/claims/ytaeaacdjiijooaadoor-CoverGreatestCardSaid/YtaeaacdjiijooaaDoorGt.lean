/- What the listed package-level tables hold, and that it stays so. -/
import Derived.Test.YtaeaacdjiijooaaDoorProg
import Derived.Below
import Derived.Deep.Draws
import Derived.Test.YtaeaacdjiijooaaDoorWWords
namespace Go.Proofs.YtaeaacdjiijooaaDoor.Pr
open Go.RowKit Go.Proofs.YtaeaacdjiijooaaDoorW.PrintWords
def tab0 : List Int := [0, 1, 56, 2, 57, 49, 28, 3, 61, 58, 42, 50, 38, 29, 17, 4, 62, 47, 59, 36, 45, 43, 51, 22, 53, 39, 33, 30, 24, 18, 12, 5, 63, 55, 48, 27, 60, 41, 37, 16, 46, 35, 44, 21, 52, 32, 23, 11, 54, 26, 40, 15, 34, 20, 31, 10, 25, 14, 19, 9, 13, 8, 7, 6]
/-- What the listed package-level table holds. -/
def GTab (w : World) : Prop := ∀ j, j < tab0.length → w.cell? ⟨0, j, none⟩ = some (.int .u8 (tab0.getD j 0))
theorem GTab.below {w w1 : World} (h : GTab w) (hb : Below w.heap.size w w1) : GTab w1 := fun j hj => pw_cell_below hb (h j hj)
end Go.Proofs.YtaeaacdjiijooaaDoor.Pr
