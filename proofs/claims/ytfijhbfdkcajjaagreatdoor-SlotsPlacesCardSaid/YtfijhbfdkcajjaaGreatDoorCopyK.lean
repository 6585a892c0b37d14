/- copy(dst, src) of rows of k cells, the whole of them. -/
import Derived.Test.YtfijhbfdkcajjaaGreatDoorWWords
import Derived.Test.YtfijhbfdkcajjaaGreatDoorShaAll
import Derived.Laws.CopyRow
import Derived.Laws.MakeOwn
namespace Go.CopyK
set_option linter.unusedVariables false
open Go Go.RowKit Go.Proofs.YtfijhbfdkcajjaaGreatDoorW.PrintWords
section
variable {P : Program} {ops : Array Oper} {rest : List Oper} {o : Oper} {a : Act} {Q : Exit → Act → World → Prop}
theorem run_copyK (w : World) (dT sT ty elem : TypeId) (k g n dCap sCap : Nat) (A : Option Addr) (cur : Array Value) (t : TypeId) (cs : List Value)
    (hu : P.underlying dT = some (.slice elem)) (hs : (P.info? elem).map (·.size) = some k)
    (hg : w.heap[g]? = some (.cells cur t (0, 0))) (hn : cs.length = n * k) (hfit : cs.length = cur.size) (hA : ∀ j v, cs[j]? = some v → ∃ ad, A = some ad ∧ w.cell? (ad.add j) = some v)
    (h1 : ∀ v ∈ cs, v.oneCell' = true) (h0 : 0 < n → 0 < k) :
    (Builtin.copy_ #[dT, sT] ty #[.slice (some ⟨g, 0, none⟩) n dCap, .slice A n sCap]).run P w = .ok (goInt n) (w.setRow g cs.toArray) := by
  obtain ⟨i, hi, hik⟩ := Option.map_eq_some_iff.1 hs
  have hst := run_storeCells_at P g 0 t cs 0 cur w hg (by omega) h1
  rw [List.take_zero, List.nil_append, List.drop_eq_nil_of_le (by rw [Array.length_toList]; omega), List.append_nil] at hst
  have hmin : Nat.min n n = n := Nat.min_self n
  have hf : (Builtin.firstCells k n (.slice A n sCap)).run P w = .ok cs.toArray w := by
    rcases A with _ | ad
    · have hc : cs = [] := by
        cases cs with
        | nil => rfl
        | cons v r => obtain ⟨ad, e, _⟩ := hA 0 v rfl; cases e
      subst hc
      exact run_firstCells_none w k n n sCap
    · exact run_firstCells_some (P := P) w k n ad n sCap cs hn (fun j v hv => by obtain ⟨ad', e, hc⟩ := hA j v hv; cases e; exact hc)
  simp [Builtin.copy_, run_underlying hu, sizeOf, typeInfo, hi, hik, Builtin.lenOf, hf, hst]
end
end Go.CopyK
