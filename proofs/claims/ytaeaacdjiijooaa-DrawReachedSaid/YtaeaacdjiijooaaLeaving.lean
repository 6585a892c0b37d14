/- A call that starts no goroutine leaves nobody behind: 'alone' is more than 'leaving'. -/
import Derived.Conc.Holds
import Derived.Handed
namespace Go.Proofs.Ytaeaacdjiijooaa
open Go
theorem leaving_of_alone {P : Program} {m : Machine} {w : World} {t : Trace} (h : aloneAtReturn P m w t) : leavingAtReturn P m w t := by
  obtain ⟨⟨h1, h2⟩, h3, h4⟩ := h
  refine ⟨h3, ⟨fun g hg => ⟨0, ?_⟩, h2⟩, h4⟩
  have := List.all_eq_true.1 h1 g hg
  show g.status = .finished
  revert this; cases g.status <;> simp <;> first | rfl | (intro h; cases h) | skip
theorem leaving_of_handed {a : Assume} {C : Checked} {os : Os} {f : FuncId} {r : Reach} {Pre : World → Array Value → Prop} {Post : World → Array Value → Value → World → Prop} (h : ReturnsInHanded a C os f r Pre Post) : ReturnsInLeavingWide a C os f r Pre Post := fun enter => by
  obtain ⟨g0, g1, g2, g3, all⟩ := h enter
  refine ⟨g0, g1, g2, g3, fun w tape i hf => ?_⟩
  obtain ⟨n, v, w', hn, hc, hr, hp, ⟨j, last, hj, hs, hq⟩, ha⟩ := all w tape i hf
  exact ⟨n, v, w', hn, hc, hr, hp, ⟨j, last, hj, hs, leaving_of_alone hq⟩, ha⟩
end Go.Proofs.Ytaeaacdjiijooaa
