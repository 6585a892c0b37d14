/- The contracts of wide's And, Plus. -/
import Derived.Test.YtfijhbfdkcajjaaGreatDoorPrx0
import Derived.Test.YtfijhbfdkcajjaaGreatDoorShaAll
import Derived.Shelf.Spec.BitsCarry
namespace Go.Proofs.YtfijhbfdkcajjaaGreatDoor.Pr
open Go.RowKit Go.Proofs.YtfijhbfdkcajjaaGreatDoorW.PrintWords Go.Proofs.YtfijhbfdkcajjaaGreatDoorW.PrintLast Go.Proofs.YtfijhbfdkcajjaaGreatDoorW.PrintMore Go.Shelf
set_option linter.unusedVariables false
set_option linter.unusedSimpArgs false
/-- A sum: its high word, and its two low ones. -/
structure W3 where
  h : Nat
  hi : Nat
  lo : Nat
def W3.cells (x : W3) : Array Value := #[.int .u64 (x.h : Int), .int .u64 (x.hi : Int), .int .u64 (x.lo : Int)]
def W3.ok (x : W3) : Prop := x.h < 18446744073709551616 ∧ x.hi < 18446744073709551616 ∧ x.lo < 18446744073709551616
def andX (x y : W3) : W3 :=
  let c1 := (x.lo + y.lo + 0) / 18446744073709551616
  let c2 := (x.hi + y.hi + c1) / 18446744073709551616
  let o := (x.h + y.h + c2) / 18446744073709551616
  ⟨if o = 0 then (x.h + y.h + c2) % 18446744073709551616 else 18446744073709551615, (x.hi + y.hi + c1) % 18446744073709551616, (x.lo + y.lo + 0) % 18446744073709551616⟩
/-- The sum of numbers. -/
def sumX (l : List S39) : W3 := l.foldl (fun x a => andX x ⟨0, a.f0.toNat, a.f1.toNat⟩) ⟨0, 0, 0⟩
def OkU (a : S39) : Prop := (0 ≤ a.f0 ∧ a.f0 < 18446744073709551616) ∧ (0 ≤ a.f1 ∧ a.f1 < 18446744073709551616)
instance (a : S39) : Decidable (OkU a) := by unfold OkU; infer_instance
def wide_Balanced.f (l0 l1 : List S39) : Option Bool := if (l0.length ≤ 100000 ∧ l1.length ≤ 100000) ∧ ((∀ a, a ∈ l0 → OkU a) ∧ ∀ a, a ∈ l1 → OkU a) then some (decide ((sumX l0).h = (sumX l1).h ∧ (sumX l0).hi = (sumX l1).hi ∧ (sumX l0).lo = (sumX l1).lo)) else none
end Go.Proofs.YtfijhbfdkcajjaaGreatDoor.Pr
