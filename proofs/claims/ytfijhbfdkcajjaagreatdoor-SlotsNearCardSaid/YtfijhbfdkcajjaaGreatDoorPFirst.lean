/- tag.First in the print's form. -/
import Derived.Test.YtfijhbfdkcajjaaGreatDoorShaAll
import Derived.Test.YtfijhbfdkcajjaaGreatDoorGt
import Derived.Test.YtfijhbfdkcajjaaGreatDoorPrx0
namespace Go.Proofs.YtfijhbfdkcajjaaGreatDoor.Pr
open Go.RowKit Go.Proofs.YtfijhbfdkcajjaaGreatDoorW.PrintWords Go.Proofs.YtfijhbfdkcajjaaGreatDoorW.PrintLast Go.Proofs.YtfijhbfdkcajjaaGreatDoorW.PrintMore
set_option linter.unusedVariables false
def tag_First.f (a0 a1 : ByteArray) (a2 : Int) : Option Int := if (a0.size < 140737488355328 ∧ a1.size ≤ 4294967200) ∧ (0 ≤ a2 ∧ a2 ≤ 63) then some ((Sh.numOf a0 (Sh.one1 5 ++ a1) % 2 ^ a2.toNat : Nat) : Int) else none
theorem tag_First.calls (a0 a1 : ByteArray) (a2 : Int) (r : Int) (w : World) (hGT : GTab w) (h : tag_First.f a0 a1 a2 = some r) : Calls Tryz.prog 18 #[.string a0, .string a1, .int .i64 a2] w fun e w' => e = .returned (.int .u64 r) ∧ Below w.heap.size w w' := by
  unfold tag_First.f at h
  by_cases hc : (a0.size < 140737488355328 ∧ a1.size ≤ 4294967200) ∧ (0 ≤ a2 ∧ a2 ≤ 63)
  · rw [if_pos hc] at h
    have h := Option.some.inj h
    subst h
    obtain ⟨n, rfl⟩ := Int.eq_ofNat_of_zero_le hc.2.1
    rw [Int.toNat_natCast]
    exact Sh.first_slot_calls a0 a1 n (by omega) w hGT.2 hc.1.1 hc.1.2
  · rw [if_neg hc] at h; cases h
end Go.Proofs.YtfijhbfdkcajjaaGreatDoor.Pr
