import Derived.Test.YtaeaacdjiijooaaLiftW
import Derived.Test.YtaeaacdjiijooaaProg
import Derived.KernelRfl
namespace Go.Proofs.Ytaeaacdjiijooaa.Co
open Go Go.Conc Go.Proofs.Ytaeaacdjiijooaa.Lift
set_option linter.unusedVariables false
set_option linter.unusedSimpArgs false
def C4 : Chk := { S := fun f => [10, 11, 12, 13, 15, 16, 27, 28, 30].contains f, fs := fun _ => [], V := fun _ => false, L := fun f => [4, 14].contains f }
theorem noSteps : ∀ g, Try.prog.stepOf g = none := by
  have h : (Try.prog.funcs.all fun f => (f.body.map readies).all (·.isEmpty)) = true := by kernel_rfl
  intro g
  unfold Program.stepOf
  rw [Array.findIdx?_eq_none_iff]
  intro f hf
  have := Array.all_eq_true_iff_forall_mem.1 h f hf
  cases hb : f.body with
  | none => simp
  | some c => rw [hb] at this; simp at this; simp [this]
theorem chk4 : ChkOk Try.prog C4 := by
  refine ⟨fun g hg => ?_, fun g hg => (by cases hg), noSteps, fun g hg => ?_⟩
  · have h : g = 10 ∨ g = 11 ∨ g = 12 ∨ g = 13 ∨ g = 15 ∨ g = 16 ∨ g = 27 ∨ g = 28 ∨ g = 30 := by simpa [C4] using hg
    rcases h with rfl | rfl | rfl | rfl | rfl | rfl | rfl | rfl | rfl
    · exact ⟨Try.f10, _, Try.func10, by decide, rfl, by kernel_rfl⟩
    · exact ⟨Try.f11, _, Try.func11, by decide, rfl, by kernel_rfl⟩
    · exact ⟨Try.f12, _, Try.func12, by decide, rfl, by kernel_rfl⟩
    · exact ⟨Try.f13, _, Try.func13, by decide, rfl, by kernel_rfl⟩
    · exact ⟨Try.f15, _, Try.func15, by decide, rfl, by kernel_rfl⟩
    · exact ⟨Try.f16, _, Try.func16, by decide, rfl, by kernel_rfl⟩
    · exact ⟨Try.f27, _, Try.func27, by decide, rfl, by kernel_rfl⟩
    · exact ⟨Try.f28, _, Try.func28, by decide, rfl, by kernel_rfl⟩
    · exact ⟨Try.f30, _, Try.func30, by decide, rfl, by kernel_rfl⟩
  · have h : g = 4 ∨ g = 14 := by simpa [C4] using hg
    rcases h with rfl | rfl
    · exact ⟨Try.f4, _, Try.func4, rfl⟩
    · exact ⟨Try.f14, _, Try.func14, rfl⟩
end Go.Proofs.Ytaeaacdjiijooaa.Co
