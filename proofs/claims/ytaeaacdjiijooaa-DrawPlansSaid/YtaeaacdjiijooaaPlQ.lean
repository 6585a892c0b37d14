import Derived.Test.YtaeaacdjiijooaaPlP
namespace Go.Proofs.Ytaeaacdjiijooaa.Co
open Go.Conc Go.RowKit Go.Proofs.Ytaeaacdjiijooaa.Lift Go.Proofs.YtaeaacdjiijooaaW.PrintWords Go.Proofs.YtaeaacdjiijooaaW.PrintLast Go.Proofs.YtaeaacdjiijooaaW.PrintMore
set_option linter.unusedVariables false
set_option linter.unusedSimpArgs false
theorem at_at (w : World) (d e : Nat) : (w.at d).at e = w.at e := rfl
theorem d0_l {w w' : World} {es : Array Event} (h : es = #[]) : D0 w w' es := by subst h; exact ev_nil
/-- A frame of function f at its return. -/
theorem atLeave_mk {P : Program} {f : FuncId} {fn : Func} {T : Array Value} {k : List Item} {cs : List Frame} {w : World} {v : Value} {R : Value → World → Prop} (hf : P.funcs[f]? = some fn) (hr : (results fn T).run P w = .ok v w) (hR : R v w) :
    AtLeave P f R cs (G { (base f).at ⟨T, []⟩ k with mode := .returning } cs) w := ⟨_, v, rfl, ⟨rfl, rfl, rfl, fn, hf, hr⟩, rfl, hR⟩
theorem HR.at {c B M : Nat} {w0 : World} {v : Value} {n : Nat} {xs : List Value} {w : World} (h : HR c B M w0 v n xs w) (d : Nat) : HR c B M w0 v n xs (w.at d) := h.rely (Go.Conc.Aside.at c w d)
set_option maxHeartbeats 4000000 in
set_option maxRecDepth 100000 in
/-- Behind the close. -/
theorem plan_end (h : Int) (A : Option Addr) (l cp c B : Nat) (w0 : World) (n : Nat) (xs : List Value) (cs : List Frame) (g : Goroutine) (w : World) (hF : FinR h A l cp c B w0 n xs cs g w) :
    GoesW Try.prog true AtRel D0 (AtLeave Try.prog 14 (fun v' w' => ∃ v M, v' = .tuple #[v, .int .i64 0] ∧ HR c B M w0 v n xs w') cs) g w := by
  obtain ⟨M, v, J, rfl, hJ, hH⟩ := hF
  refine GoesW.of_goes (n := 0 + 20) ?_
  have HA : AtRel w w := at_self w
  simp only [gR, opsR, restR, loopX, tailP, TP, Try.f14]
  repeat (first | (refine Goes.step rfl (fun w₁ h₁ => ?_); replace HA := atRel_trans _ _ _ HA h₁; clear h₁; first | (refine goes_oper_k rfl rfl (by decide) (fun K hK => ?_); (first | go_simp | simp only [hJ, zP, go_sem]); refine hK _ _ ⟨d0_l (listed_nil (by simp [go_sem, hJ, zP])), ?_⟩; clear hK K) | ((first | rw [stepG_seq] | rw [stepG_skip] | rw [stepG_block] | rw [stepG_loop] | rw [stepG_inLoop] | rw [stepG_inBlock] | rw [stepG_region_end] | (rw [stepG_region]; simp only [List.size_toArray, List.length_cons, List.length_nil, Nat.reduceAdd, Nat.zero_add, List.range, List.range.loop])); simp only [goes_go]; refine ⟨d0_nil _ _, ?_⟩)))
  refine Goes.step rfl (fun w₁ h₁ => ?_)
  replace HA := atRel_trans _ _ _ HA h₁
  clear h₁
  rw [stepG_cond (t := false) rfl]
  simp only [goes_go, if_false, Bool.false_eq_true, ↓reduceIte]
  refine ⟨d0_nil _ _, ?_⟩
  refine Goes.step rfl (fun w₁ h₁ => ?_)
  replace HA := atRel_trans _ _ _ HA h₁
  clear h₁
  apply goes_exit
  · rfl
  refine ⟨d0_nil _ _, ?_⟩
  repeat (first | (refine Goes.step rfl (fun w₁ h₁ => ?_); replace HA := atRel_trans _ _ _ HA h₁; clear h₁; first | (refine goes_oper_k rfl rfl (by decide) (fun K hK => ?_); (first | go_simp | simp only [hJ, zP, go_sem]); refine hK _ _ ⟨d0_l (listed_nil (by simp [go_sem, hJ, zP])), ?_⟩; clear hK K) | ((first | rw [stepG_seq] | rw [stepG_skip] | rw [stepG_block] | rw [stepG_loop] | rw [stepG_inLoop] | rw [stepG_inBlock] | rw [stepG_region_end] | (rw [stepG_region]; simp only [List.size_toArray, List.length_cons, List.length_nil, Nat.reduceAdd, Nat.zero_add, List.range, List.range.loop])); simp only [goes_go]; refine ⟨d0_nil _ _, ?_⟩)))
  refine Goes.step rfl (fun w₁ h₁ => ?_)
  replace HA := atRel_trans _ _ _ HA h₁
  clear h₁
  rw [stepG_ret']
  refine ⟨d0_nil _ _, ?_⟩
  refine Goes.stop fun w₂ h₂ => ?_
  replace HA := atRel_trans _ _ _ HA h₂
  obtain ⟨d, rfl⟩ := HA
  exact atLeave_mk Try.func14 (results_tmp2 (by rfl) _ _ _) ⟨v, M, rfl, hH.at d⟩
end Go.Proofs.Ytaeaacdjiijooaa.Co
