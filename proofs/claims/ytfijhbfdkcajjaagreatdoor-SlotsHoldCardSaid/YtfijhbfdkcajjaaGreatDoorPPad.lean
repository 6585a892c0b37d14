/- tag.Pad in the print's form. -/
import Derived.Test.YtfijhbfdkcajjaaGreatDoorShaAll
import Derived.Test.YtfijhbfdkcajjaaGreatDoorPrx0
namespace Go.Proofs.YtfijhbfdkcajjaaGreatDoor.Pr
open Go.RowKit Go.Proofs.YtfijhbfdkcajjaaGreatDoorW.PrintWords Go.Proofs.YtfijhbfdkcajjaaGreatDoorW.PrintLast Go.Proofs.YtfijhbfdkcajjaaGreatDoorW.PrintMore
set_option linter.unusedVariables false
def tag_Pad.f (a0 : ByteArray) (a1 : Int) : Option (Bool × ByteArray × ByteArray × Int × Int) := if a0.size < 140737488355328 ∧ (0 ≤ a1 ∧ a1 < 18446744073709551616) then some (true, ⟨#[]⟩, Sh.padSaltS a0 a1.toNat, 0, 0) else none
theorem tag_Pad.calls (a0 : ByteArray) (a1 : Int) (r1 : Bool) (r2 r3 : ByteArray) (r4 r5 : Int) (w : World) (hGT : GTab w) (h : tag_Pad.f a0 a1 = some (r1, r2, r3, r4, r5)) : Calls Tryz.prog 23 #[.string a0, .int .u64 a1] w fun e w' => e = .returned (.agg #[.bool r1, .string r2, .string r3, .int .u64 r4, .int .u64 r5]) ∧ Below w.heap.size w w' := by
  unfold tag_Pad.f at h
  by_cases hc : a0.size < 140737488355328 ∧ (0 ≤ a1 ∧ a1 < 18446744073709551616)
  · rw [if_pos hc] at h
    have h := Option.some.inj h
    injection h with e1 h
    injection h with e2 h
    injection h with e3 h
    injection h with e4 e5
    subst e1 e2 e3 e4 e5
    obtain ⟨n, rfl⟩ := Int.eq_ofNat_of_zero_le hc.2.1
    rw [Int.toNat_natCast]
    exact Sh.pad_calls a0 n (by omega) w hGT.2 hc.1
  · rw [if_neg hc] at h; cases h
end Go.Proofs.YtfijhbfdkcajjaaGreatDoor.Pr
