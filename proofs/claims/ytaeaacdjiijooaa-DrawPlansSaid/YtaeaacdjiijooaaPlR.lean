import Derived.Test.YtaeaacdjiijooaaPlQ
namespace Go.Proofs.Ytaeaacdjiijooaa.Co
open Go.Conc Go.RowKit Go.Proofs.Ytaeaacdjiijooaa.Lift Go.Proofs.YtaeaacdjiijooaaW.PrintWords Go.Proofs.YtaeaacdjiijooaaW.PrintLast Go.Proofs.YtaeaacdjiijooaaW.PrintMore
open Go.Proofs.Ytaeaacdjiijooaa.Dp (S29 k29)
set_option linter.unusedVariables false
set_option linter.unusedSimpArgs false
def mkS (h : Int) (p : Int × Int) : S29 := ⟨loV h p.1 p.2, hiV h p.1 p.2⟩
/-- What draw.Plan answers. -/
def planR (h : Int) (ds : List Int) : List S29 × Int :=
  if 0 ≤ h ∧ h ≤ 63 then (if ds.length ≤ 2048 then ((pairsP ds 0 (ds.length / 2)).map (mkS h), 0) else ([], 3)) else ([], 120)
def PlanPost (h : Int) (ds : List Int) (w : World) (v' : Value) (w' : World) : Prop :=
  ∃ v, v' = .tuple #[v, .int .i64 (planR h ds).2] ∧ Kd.R k29 29 w' w.heap.size (fun _ => True) v (planR h ds).1 ∧ Below w.heap.size w w'
theorem reps_S (h : Int) (w : World) (base : Nat) (ok : Nat → Prop) : ∀ ps : List (Int × Int), Reps (k29.M w base ok) 2 (ps.map (mkS h)) (ps.flatMap (spanC h))
  | [] => Reps.none _ _
  | p :: ps => by
    obtain ⟨h1, h2⟩ := reps_S h w base ok ps
    refine ⟨?_, fun j x hx => ?_⟩
    · simp only [List.flatMap_cons, List.length_append, List.map_cons, List.length_cons, h1]
      simp [spanC]
      omega
    · cases j with
      | zero =>
        simp only [List.map_cons, List.getElem?_cons_zero, Option.some.injEq] at hx
        subst hx
        exact Dp.k29_mkM w base ok _
      | succ j =>
        have hx' : (ps.map (mkS h))[j]? = some x := by simpa using hx
        have := h2 j x hx'
        have e : (j + 1) * 2 = 2 + j * 2 := by omega
        rw [e, ← List.drop_drop]
        exact this
theorem below_at {n : Nat} {w w' : World} (h : Below n w w') (d : Nat) : Below n w (w'.at d) := ⟨h.os, h.tape, h.output, h.size, h.block⟩
/-- What behind the close stands. -/
theorem post_of_HR {h : Int} {ds : List Int} {w w0 w' : World} {c B M : Nat} {v : Value} (h0 : 0 ≤ h ∧ h ≤ 63) (hl : ds.length ≤ 2048) (hB : B = w0.heap.size) (hc : w.heap.size ≤ c) (hb : Below w.heap.size w w0)
    (hH : HR c B M w0 v (ds.length / 2) ((pairsP ds 0 (ds.length / 2)).flatMap (spanC h)) w') : PlanPost h ds w (.tuple #[v, .int .i64 0]) w' := by
  have hs := hb.size
  refine ⟨v, by simp [planR, h0, hl], ?_, ⟨hH.os.trans hb.os, hH.tape.trans hb.tape, hH.output.trans hb.output, by have := hH.sz; have := hH.BM; omega, fun k hk => (hH.old k (by omega) (by omega)).trans (hb.block k hk)⟩⟩
  have e : (planR h ds).1 = (pairsP ds 0 (ds.length / 2)).map (mkS h) := by simp [planR, h0, hl]
  rw [e]
  refine ⟨fun _ _ => trivial, (OwnRow.lower (base := B) ⟨_, ?_, reps_S h _ _ _ _⟩ (by omega))⟩
  rw [List.length_map, pairsP_length]
  exact hH.own
end Go.Proofs.Ytaeaacdjiijooaa.Co
