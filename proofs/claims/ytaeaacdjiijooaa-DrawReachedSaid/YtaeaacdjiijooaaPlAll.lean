/- draw.Plan's course. -/
import Derived.Test.YtaeaacdjiijooaaLiftA
import Derived.Test.YtaeaacdjiijooaaProg
import Derived.KernelRfl
import Derived.Test.YtaeaacdjiijooaaCoAll
import Derived.Test.YtaeaacdjiijooaaDpAll
import Derived.Conc.SmallLaws
namespace Go.Proofs.Ytaeaacdjiijooaa.Co
open Go Go.Conc Go.Proofs.Ytaeaacdjiijooaa.Lift
set_option linter.unusedVariables false
set_option linter.unusedSimpArgs false
def C4 : Chk := { S := fun f => [10, 11, 12, 13, 15, 16, 27, 28, 30].contains f, fs := fun _ => [], V := fun _ => false, L := fun f => [4, 14].contains f }
theorem noSteps : ∀ g, Try.prog.stepOf g = none := by
  have h : (Try.prog.funcs.all fun f => (f.body.map readies).all (·.isEmpty)) = true := by kernel_rfl
  intro g
  unfold Program.stepOf
  rw [Array.findIdx?_eq_none_iff]
  intro f hf
  have := Array.all_eq_true_iff_forall_mem.1 h f hf
  cases hb : f.body with
  | none => simp
  | some c => rw [hb] at this; simp at this; simp [this]
theorem chk4 : ChkOk Try.prog C4 := by
  refine ⟨fun g hg => ?_, fun g hg => (by cases hg), noSteps, fun g hg => ?_⟩
  · have h : g = 10 ∨ g = 11 ∨ g = 12 ∨ g = 13 ∨ g = 15 ∨ g = 16 ∨ g = 27 ∨ g = 28 ∨ g = 30 := by simpa [C4] using hg
    rcases h with rfl | rfl | rfl | rfl | rfl | rfl | rfl | rfl | rfl
    · exact ⟨Try.f10, _, Try.func10, by decide, rfl, by kernel_rfl⟩
    · exact ⟨Try.f11, _, Try.func11, by decide, rfl, by kernel_rfl⟩
    · exact ⟨Try.f12, _, Try.func12, by decide, rfl, by kernel_rfl⟩
    · exact ⟨Try.f13, _, Try.func13, by decide, rfl, by kernel_rfl⟩
    · exact ⟨Try.f15, _, Try.func15, by decide, rfl, by kernel_rfl⟩
    · exact ⟨Try.f16, _, Try.func16, by decide, rfl, by kernel_rfl⟩
    · exact ⟨Try.f27, _, Try.func27, by decide, rfl, by kernel_rfl⟩
    · exact ⟨Try.f28, _, Try.func28, by decide, rfl, by kernel_rfl⟩
    · exact ⟨Try.f30, _, Try.func30, by decide, rfl, by kernel_rfl⟩
  · have h : g = 4 ∨ g = 14 := by simpa [C4] using hg
    rcases h with rfl | rfl
    · exact ⟨Try.f4, _, Try.func4, rfl⟩
    · exact ⟨Try.f14, _, Try.func14, rfl⟩
end Go.Proofs.Ytaeaacdjiijooaa.Co

namespace Go.Proofs.Ytaeaacdjiijooaa.Co
open Go.Conc Go.RowKit Go.Proofs.Ytaeaacdjiijooaa.Lift Go.Proofs.YtaeaacdjiijooaaW.PrintWords Go.Proofs.YtaeaacdjiijooaaW.PrintLast Go.Proofs.YtaeaacdjiijooaaW.PrintMore
set_option linter.unusedVariables false
set_option linter.unusedSimpArgs false
/-- The pairs, from pair k on. -/
def pairsP (ds : List Int) : Nat → Nat → List (Int × Int)
  | _, 0 => []
  | k, m + 1 => (ds.getD (2 * k) 0, ds.getD (2 * k + 1) 0) :: pairsP ds (k + 1) m
theorem valsP_eq (ds : List Int) : ∀ m k, valsP ds k m = (pairsP ds k m).map encP
  | 0, k => rfl
  | m + 1, k => by rw [valsP, pairsP, List.map_cons, valsP_eq ds m (k + 1)]
theorem pairsP_length (ds : List Int) : ∀ m k, (pairsP ds k m).length = m
  | 0, k => rfl
  | m + 1, k => by rw [pairsP, List.length_cons, pairsP_length ds m (k + 1)]
noncomputable def codeG : Code := match Try.f14.body with
  | some (.seq _ (.seq _ (.seq _ (.seq c _)))) => c
  | _ => .skip
noncomputable def restG : Code := match Try.f14.body with
  | some (.seq _ (.seq _ (.seq _ (.seq _ c)))) => c
  | _ => .skip
noncomputable def opsG : Array Oper := match codeG with
  | .region _ ops _ => ops
  | _ => #[]
/-- draw.Plan's slots at its go statement. -/
def TGo (h : Int) (A : Option Addr) (l cp c : Nat) (X : Value) (J : Nat → Value) : Array Value :=
  #[.int .i64 h, .slice A l cp, J 2, J 3, J 4, J 5, .chan (some c), J 7, J 8, J 9, J 10, J 11, J 12, J 13, J 14, J 15, J 16, J 17, J 18, J 19, J 20, X, .chan (some c), J 23, J 24, J 25, J 26, J 27, J 28, J 29, J 30, J 31, J 32, J 33, J 34, J 35, J 36, J 37, J 38, J 39, J 40]
noncomputable def gGo (h : Int) (A : Option Addr) (l cp c : Nat) (X : Value) (J : Nat → Value) (cs : List Frame) : Goroutine :=
  G ((base 14).at ⟨TGo h A l cp c X J, []⟩ [.inRegion opsG [3], .code restG]) cs
theorem dr_nil (B : Nat) {w : World} {es : Array Event} (h : es = #[]) : DR B w w es := ⟨fun _ _ => rfl, fun e he => by subst h; simp at he⟩
set_option maxHeartbeats 4000000 in
set_option maxRecDepth 100000 in
theorem recvs_R (h : Int) (h0 : 0 ≤ h) (h1 : h ≤ 63) (A : Option Addr) (l cp c B : Nat) (X : Value) (J : Nat → Value) (cs : List Frame) (w0 w : World) (hA0 : Go.Conc.Aside c w0 w) (hc : c < B) (hB : B = w0.heap.size) (ps : List (Int × Int)) (hps : ps.length < 2000) :
    Recvs Try.prog c (SB c B w0) (Own (Stl B c)) zP (FinR h A l cp c B w0 ps.length (ps.flatMap (spanC h)) cs) (ps.map encP) (G ((base 14).at ⟨TGo h A l cp c X J, []⟩ [.inRegion opsG [], .code restG]) cs) w := by
  have HF : HR c B B w0 (.slice none 0 0) 0 [] w0 := ⟨hc, Nat.le_refl _, by omega, fun _ _ _ => rfl, rfl, rfl, rfl, World.ownsRow_nil _ _ _ _, fun g hg => by cases hg⟩
  have hst := fun (J' : Nat → Value) (w₁ : World) (hr : Go.Conc.Aside c w0 w₁) => stopA_R h h0 h1 A l cp c B w0 cs ps 0 B [] (.slice none 0 0) J' w₁ (HF.rely hr) (by omega)
  simp only [Nat.zero_add, List.nil_append] at hst
  refine (recvs_iff ..).2 ⟨0 + 14, goes_weaken (D := DR B) (fun w' w'' es => da_of_dr hc w0) ?_⟩
  simp only [opsG, codeG, restG, TGo, Try.f14]
  have trans : ∀ {a b c' : World}, Go.Conc.Aside c a b → Go.Conc.Aside c b c' → Go.Conc.Aside c a c' := fun h1 h2 => Go.Conc.Aside.trans h1 h2
  have HA := hA0
  repeat (first | (refine Goes.step rfl (fun w₁ h₁ => ?_); replace HA := trans HA h₁; clear h₁; first | (refine goes_oper_k rfl rfl (by decide) (fun K hK => ?_); go_simp; refine hK _ _ ⟨dr_nil B (listed_nil (by simp [go_sem])), ?_⟩; clear hK K) | ((first | rw [stepG_seq] | rw [stepG_skip] | rw [stepG_block] | rw [stepG_loop] | rw [stepG_inLoop] | rw [stepG_inBlock] | rw [stepG_region_end] | (rw [stepG_region]; simp only [List.size_toArray, List.length_cons, List.length_nil, Nat.reduceAdd, Nat.zero_add, List.range, List.range.loop])); simp only [goes_go]; refine ⟨dr_nil B rfl, ?_⟩)))
  exact Goes.stop fun w₂ h₂ => hst (fun i => if i = 21 then X else if i = 22 then .chan (some c) else J i) w₂ (trans HA h₂)
/-- AT THE GO STATEMENT. -/
theorem atGo_P {s r : Nat} {tm : Bool} (h : Int) (h0 : 0 ≤ h) (h1 : h ≤ 63) (A A' : Option Addr) (l cp cp' c : Nat) (J : Nat → Value) (cs : List Frame) (w : World) (ds : List Int) (hc : w.heap[c]? = some (.chan 0 #[] false s r tm)) (hl : ds.length ≤ 2048)
    (hX : Kd.C (Kd.int .u64) w A' ds.length ds) (hXb : ∀ ad, A' = some ad → ad.block < w.heap.size ∧ ad.block ≠ c) :
    AtGoP Try.prog (FinR h A l cp c w.heap.size w (ds.length / 2) ((pairsP ds 0 (ds.length / 2)).flatMap (spanC h)) cs) (gGo h A l cp c (.slice A' ds.length cp') J cs) w := by
  have hcB : c < w.heap.size := blk_lt hc
  refine ⟨rfl, fun d => ⟨_, _, w.at d, _, c, SB c w.heap.size w, Stl w.heap.size c, zP, valsP ds 0 (ds.length / 2), s, r, tm, stepG_spawn (d := dP A' ds.length cp' c) rfl rfl (by decide) ?_ rfl, ?_, ?_, ?_, ?_, hc, ?_, ?_⟩⟩
  · simp [go_sem, opsG, codeG, Try.f14, execOp, resolve, Act.eval, TGo, dP]
  · refine (congrArg Lift.Ev (listed_nil ?_)).mpr ev_nil
    simp [go_sem, opsG, codeG, Try.f14, execOp, resolve, Act.eval, TGo]
  · rintro l (⟨a, rfl, _⟩ | rfl) <;> rfl
  · intro w₁ w₂ h hS b hb hne
    exact (h.block b hne).trans (hS b hb hne)
  · intro b hb hne
    rfl
  · have := recvs_R h h0 h1 A l cp c w.heap.size (.slice A' ds.length cp') J cs w (w.at d) (Go.Conc.Aside.at c w d) hcB rfl (pairsP ds 0 (ds.length / 2)) (by rw [pairsP_length]; omega)
    rw [pairsP_length] at this
    rw [valsP_eq]
    exact this
  · refine sends_all c w.heap.size w A' ds.length cp' ds (fun ad hA => ?_) (fun h1 => ?_) (by omega)
    · obtain ⟨h1, h2⟩ := hXb ad hA
      refine ⟨h1, h2, fun j hj => ?_⟩
      obtain ⟨ad', e, hx⟩ := Kd.at_int hX (j : Int) (by omega) (by omega)
      rw [hA] at e
      cases e
      exact hx
    · obtain ⟨ad, hA, _⟩ := hX.2.2 (by omega)
      exact ⟨ad, hA⟩
end Go.Proofs.Ytaeaacdjiijooaa.Co

namespace Go.Proofs.Ytaeaacdjiijooaa.Co
open Go.Conc Go.RowKit Go.Proofs.Ytaeaacdjiijooaa.Lift Go.Proofs.YtaeaacdjiijooaaW.PrintWords Go.Proofs.YtaeaacdjiijooaaW.PrintLast Go.Proofs.YtaeaacdjiijooaaW.PrintMore
set_option linter.unusedVariables false
set_option linter.unusedSimpArgs false
theorem at_at (w : World) (d e : Nat) : (w.at d).at e = w.at e := rfl
theorem d0_l {w w' : World} {es : Array Event} (h : es = #[]) : D0 w w' es := by subst h; exact ev_nil
/-- A frame of function f at its return. -/
theorem atLeave_mk {P : Program} {f : FuncId} {fn : Func} {T : Array Value} {k : List Item} {cs : List Frame} {w : World} {v : Value} {R : Value → World → Prop} (hf : P.funcs[f]? = some fn) (hr : (results fn T).run P w = .ok v w) (hR : R v w) :
    AtLeave P f R cs (G { (base f).at ⟨T, []⟩ k with mode := .returning } cs) w := ⟨_, v, rfl, ⟨rfl, rfl, rfl, fn, hf, hr⟩, rfl, hR⟩
theorem HR.at {c B M : Nat} {w0 : World} {v : Value} {n : Nat} {xs : List Value} {w : World} (h : HR c B M w0 v n xs w) (d : Nat) : HR c B M w0 v n xs (w.at d) := h.rely (Go.Conc.Aside.at c w d)
set_option maxHeartbeats 4000000 in
set_option maxRecDepth 100000 in
/-- Behind the close. -/
theorem plan_end (h : Int) (A : Option Addr) (l cp c B : Nat) (w0 : World) (n : Nat) (xs : List Value) (cs : List Frame) (g : Goroutine) (w : World) (hF : FinR h A l cp c B w0 n xs cs g w) :
    GoesW Try.prog true AtRel D0 (AtLeave Try.prog 14 (fun v' w' => ∃ v M, v' = .tuple #[v, .int .i64 0] ∧ HR c B M w0 v n xs w') cs) g w := by
  obtain ⟨M, v, J, rfl, hJ, hH⟩ := hF
  refine GoesW.of_goes (n := 0 + 20) ?_
  have HA : AtRel w w := at_self w
  simp only [gR, opsR, restR, loopX, tailP, TP, Try.f14]
  repeat (first | (refine Goes.step rfl (fun w₁ h₁ => ?_); replace HA := atRel_trans _ _ _ HA h₁; clear h₁; first | (refine goes_oper_k rfl rfl (by decide) (fun K hK => ?_); (first | go_simp | simp only [hJ, zP, go_sem]); refine hK _ _ ⟨d0_l (listed_nil (by simp [go_sem, hJ, zP])), ?_⟩; clear hK K) | ((first | rw [stepG_seq] | rw [stepG_skip] | rw [stepG_block] | rw [stepG_loop] | rw [stepG_inLoop] | rw [stepG_inBlock] | rw [stepG_region_end] | (rw [stepG_region]; simp only [List.size_toArray, List.length_cons, List.length_nil, Nat.reduceAdd, Nat.zero_add, List.range, List.range.loop])); simp only [goes_go]; refine ⟨d0_nil _ _, ?_⟩)))
  refine Goes.step rfl (fun w₁ h₁ => ?_)
  replace HA := atRel_trans _ _ _ HA h₁
  clear h₁
  rw [stepG_cond (t := false) rfl]
  simp only [goes_go, if_false, Bool.false_eq_true, ↓reduceIte]
  refine ⟨d0_nil _ _, ?_⟩
  refine Goes.step rfl (fun w₁ h₁ => ?_)
  replace HA := atRel_trans _ _ _ HA h₁
  clear h₁
  apply goes_exit
  · rfl
  refine ⟨d0_nil _ _, ?_⟩
  repeat (first | (refine Goes.step rfl (fun w₁ h₁ => ?_); replace HA := atRel_trans _ _ _ HA h₁; clear h₁; first | (refine goes_oper_k rfl rfl (by decide) (fun K hK => ?_); (first | go_simp | simp only [hJ, zP, go_sem]); refine hK _ _ ⟨d0_l (listed_nil (by simp [go_sem, hJ, zP])), ?_⟩; clear hK K) | ((first | rw [stepG_seq] | rw [stepG_skip] | rw [stepG_block] | rw [stepG_loop] | rw [stepG_inLoop] | rw [stepG_inBlock] | rw [stepG_region_end] | (rw [stepG_region]; simp only [List.size_toArray, List.length_cons, List.length_nil, Nat.reduceAdd, Nat.zero_add, List.range, List.range.loop])); simp only [goes_go]; refine ⟨d0_nil _ _, ?_⟩)))
  refine Goes.step rfl (fun w₁ h₁ => ?_)
  replace HA := atRel_trans _ _ _ HA h₁
  clear h₁
  rw [stepG_ret']
  refine ⟨d0_nil _ _, ?_⟩
  refine Goes.stop fun w₂ h₂ => ?_
  replace HA := atRel_trans _ _ _ HA h₂
  obtain ⟨d, rfl⟩ := HA
  exact atLeave_mk Try.func14 (results_tmp2 (by rfl) _ _ _) ⟨v, M, rfl, hH.at d⟩
end Go.Proofs.Ytaeaacdjiijooaa.Co

namespace Go.Proofs.Ytaeaacdjiijooaa.Co
open Go.Conc Go.RowKit Go.Proofs.Ytaeaacdjiijooaa.Lift Go.Proofs.YtaeaacdjiijooaaW.PrintWords Go.Proofs.YtaeaacdjiijooaaW.PrintLast Go.Proofs.YtaeaacdjiijooaaW.PrintMore
open Go.Proofs.Ytaeaacdjiijooaa.Dp (S29 k29)
set_option linter.unusedVariables false
set_option linter.unusedSimpArgs false
def mkS (h : Int) (p : Int × Int) : S29 := ⟨loV h p.1 p.2, hiV h p.1 p.2⟩
/-- What draw.Plan answers. -/
def planR (h : Int) (ds : List Int) : List S29 × Int :=
  if 0 ≤ h ∧ h ≤ 63 then (if ds.length ≤ 2048 then ((pairsP ds 0 (ds.length / 2)).map (mkS h), 0) else ([], 3)) else ([], 120)
def PlanPost (h : Int) (ds : List Int) (w : World) (v' : Value) (w' : World) : Prop :=
  ∃ v, v' = .tuple #[v, .int .i64 (planR h ds).2] ∧ Kd.R k29 29 w' w.heap.size (fun _ => True) v (planR h ds).1 ∧ Below w.heap.size w w'
theorem reps_S (h : Int) (w : World) (base : Nat) (ok : Nat → Prop) : ∀ ps : List (Int × Int), Reps (k29.M w base ok) 2 (ps.map (mkS h)) (ps.flatMap (spanC h))
  | [] => Reps.none _ _
  | p :: ps => by
    obtain ⟨h1, h2⟩ := reps_S h w base ok ps
    refine ⟨?_, fun j x hx => ?_⟩
    · simp only [List.flatMap_cons, List.length_append, List.map_cons, List.length_cons, h1]
      simp [spanC]
      omega
    · cases j with
      | zero =>
        simp only [List.map_cons, List.getElem?_cons_zero, Option.some.injEq] at hx
        subst hx
        exact Dp.k29_mkM w base ok _
      | succ j =>
        have hx' : (ps.map (mkS h))[j]? = some x := by simpa using hx
        have := h2 j x hx'
        have e : (j + 1) * 2 = 2 + j * 2 := by omega
        rw [e, ← List.drop_drop]
        exact this
theorem below_at {n : Nat} {w w' : World} (h : Below n w w') (d : Nat) : Below n w (w'.at d) := ⟨h.os, h.tape, h.output, h.size, h.block⟩
/-- What behind the close stands. -/
theorem post_of_HR {h : Int} {ds : List Int} {w w0 w' : World} {c B M : Nat} {v : Value} (h0 : 0 ≤ h ∧ h ≤ 63) (hl : ds.length ≤ 2048) (hB : B = w0.heap.size) (hc : w.heap.size ≤ c) (hb : Below w.heap.size w w0)
    (hH : HR c B M w0 v (ds.length / 2) ((pairsP ds 0 (ds.length / 2)).flatMap (spanC h)) w') : PlanPost h ds w (.tuple #[v, .int .i64 0]) w' := by
  have hs := hb.size
  refine ⟨v, by simp [planR, h0, hl], ?_, ⟨hH.os.trans hb.os, hH.tape.trans hb.tape, hH.output.trans hb.output, by have := hH.sz; have := hH.BM; omega, fun k hk => (hH.old k (by omega) (by omega)).trans (hb.block k hk)⟩⟩
  have e : (planR h ds).1 = (pairsP ds 0 (ds.length / 2)).map (mkS h) := by simp [planR, h0, hl]
  rw [e]
  refine ⟨fun _ _ => trivial, (OwnRow.lower (base := B) ⟨_, ?_, reps_S h _ _ _ _⟩ (by omega))⟩
  rw [List.length_map, pairsP_length]
  exact hH.own
end Go.Proofs.Ytaeaacdjiijooaa.Co

namespace Go.Proofs.Ytaeaacdjiijooaa.Co
open Go.Conc Go.RowKit Go.Proofs.Ytaeaacdjiijooaa.Lift Go.Proofs.YtaeaacdjiijooaaW.PrintWords Go.Proofs.YtaeaacdjiijooaaW.PrintLast Go.Proofs.YtaeaacdjiijooaaW.PrintMore
open Go.Proofs.Ytaeaacdjiijooaa.Dp (S29 k29)
set_option linter.unusedVariables false
set_option linter.unusedSimpArgs false
/-- The same but for the tape and the count. -/
def SameOn (w w' : World) : Prop := ∃ τ d, w' = w.on τ d
theorem sameOn_atRel {w w' : World} (h : SameOn w w') (ht : w'.tape = w.tape) : AtRel w w' := by
  obtain ⟨τ, d, rfl⟩ := h
  obtain rfl : τ = w.tape := ht
  exact ⟨d, rfl⟩
theorem high_on (h : Int) (σ : Nat → Question → Nat) (w : World) : Calls Try.prog 27 #[.int .i64 h] (w.on σ 0) fun e w' => ∃ v, e = .returned v ∧ (v = .bool (decide (0 ≤ h ∧ h ≤ 63)) ∧ SameOn w w') := by
  refine (Dp.draw_high.calls h (decide (0 ≤ h ∧ h ≤ 63)) (w.on σ 0) ?_).mono ?_
  · unfold Dp.draw_high.f
    by_cases h0 : h ≥ 0
    · have h0' : 0 ≤ h := h0
      by_cases h1 : h ≤ 63 <;> simp [h0', h1]
    · have h0' : ¬ 0 ≤ h := h0
      simp [h0']
  · rintro e w' ⟨rfl, ⟨n, rfl⟩⟩
    exact ⟨_, rfl, rfl, σ, _, rfl⟩
theorem high_blind (h : Int) (w : World) : Blind fun v w' => v = .bool (decide (0 ≤ h ∧ h ≤ 63)) ∧ SameOn w w' := by
  rintro v w' τ d ⟨rfl, τ', d', rfl⟩
  exact ⟨rfl, τ, d, rfl⟩
set_option maxHeartbeats 4000000 in
set_option maxRecDepth 100000 in
/-- A HEIGHT THAT IS NONE. -/
theorem plan_low (h : Int) (hn : ¬ (0 ≤ h ∧ h ≤ 63)) (A : Option Addr) (l cp : Nat) (ds : List Int) (cs : List Frame) (w : World) :
    GoesW Try.prog true AtRel D0 (AtLeave Try.prog 14 (PlanPost h ds w) cs) (G (Frame.enter Try.prog 14 #[.int .i64 h, .slice A l cp] .normal) cs) w := by
  rw [enter_at _ Try.func14 (by rfl)]
  have hd : decide (0 ≤ h ∧ h ≤ 63) = false := decide_eq_false hn
  simp only [Try.f14, List.size_toArray, List.length_cons, List.length_nil, Nat.reduceAdd, Nat.reduceSub, Array.replicate_succ, Array.replicate_zero, List.push_toArray, List.append_toArray, List.nil_append, List.cons_append]
  have HA : AtRel w w := at_self w
  repeat (first | (refine gw_step rfl (fun w₁ h₁ => ?_); replace HA := atRel_trans _ _ _ HA h₁; clear h₁; first | (refine goes_oper_k rfl rfl (by decide) (fun K hK => ?_); go_simp; refine hK _ _ ⟨d0_l (listed_nil (by simp [go_sem, *])), ?_⟩; clear hK K) | ((first | rw [stepG_seq] | rw [stepG_skip] | rw [stepG_block] | rw [stepG_loop] | rw [stepG_inLoop] | rw [stepG_inBlock] | rw [stepG_region_end] | (rw [stepG_region]; simp only [List.size_toArray, List.length_cons, List.length_nil, Nat.reduceAdd, Nat.zero_add, List.range, List.range.loop])); simp only [goes_go]; refine ⟨d0_nil _ _, ?_⟩)))
  refine gw_call chk4 rfl rfl (by decide) rfl rfl rfl (high_blind h w) ?_ ?_
  · intro σ
    obtain ⟨d, rfl⟩ := HA
    simp only [List.map_toArray, List.map_cons, List.map_nil]
    exact high_on h σ w
  rintro v w₂ ⟨rfl, hs⟩ ht
  rw [hd]
  replace HA : AtRel w w₂ := sameOn_atRel hs (ht.trans (by obtain ⟨d, rfl⟩ := HA; rfl))
  clear hs ht
  simp only [Act.put]
  repeat (first | (refine gw_step rfl (fun w₁ h₁ => ?_); replace HA := atRel_trans _ _ _ HA h₁; clear h₁; first | (refine goes_oper_k rfl rfl (by decide) (fun K hK => ?_); go_simp; refine hK _ _ ⟨d0_l (listed_nil (by simp [go_sem, *])), ?_⟩; clear hK K) | ((first | rw [stepG_seq] | rw [stepG_skip] | rw [stepG_block] | rw [stepG_loop] | rw [stepG_inLoop] | rw [stepG_inBlock] | rw [stepG_region_end] | (rw [stepG_region]; simp only [List.size_toArray, List.length_cons, List.length_nil, Nat.reduceAdd, Nat.zero_add, List.range, List.range.loop])); simp only [goes_go]; refine ⟨d0_nil _ _, ?_⟩)))
  refine gw_step rfl (fun w₁ h₁ => ?_)
  replace HA := atRel_trans _ _ _ HA h₁
  clear h₁
  rw [stepG_cond (t := true) rfl]
  simp only [goes_go, if_true, if_false, Bool.false_eq_true, ↓reduceIte]
  refine ⟨d0_nil _ _, ?_⟩
  repeat (first | (refine gw_step rfl (fun w₁ h₁ => ?_); replace HA := atRel_trans _ _ _ HA h₁; clear h₁; first | (refine goes_oper_k rfl rfl (by decide) (fun K hK => ?_); go_simp; refine hK _ _ ⟨d0_l (listed_nil (by simp [go_sem, *])), ?_⟩; clear hK K) | ((first | rw [stepG_seq] | rw [stepG_skip] | rw [stepG_block] | rw [stepG_loop] | rw [stepG_inLoop] | rw [stepG_inBlock] | rw [stepG_region_end] | (rw [stepG_region]; simp only [List.size_toArray, List.length_cons, List.length_nil, Nat.reduceAdd, Nat.zero_add, List.range, List.range.loop])); simp only [goes_go]; refine ⟨d0_nil _ _, ?_⟩)))
  refine gw_step rfl (fun w₁ h₁ => ?_)
  replace HA := atRel_trans _ _ _ HA h₁
  clear h₁
  rw [stepG_ret']
  refine ⟨d0_nil _ _, ?_⟩
  refine .stop fun w₂ h₂ => ?_
  replace HA := atRel_trans _ _ _ HA h₂
  obtain ⟨d, rfl⟩ := HA
  have e : planR h ds = ([], 120) := by simp [planR, hn]
  exact atLeave_mk Try.func14 (results_tmp2 (by rfl) _ _ _) ⟨.slice none 0 0, by rw [e]; rfl, by rw [e]; exact Kd.R_nil _ _ _ _ _, below_at (Below.refl _ _) d⟩
set_option maxHeartbeats 4000000 in
set_option maxRecDepth 100000 in
/-- TOO MANY DRAWS. -/
theorem plan_long (h : Int) (hh : 0 ≤ h ∧ h ≤ 63) (A : Option Addr) (cp : Nat) (ds : List Int) (hl : ¬ ds.length ≤ 2048) (cs : List Frame) (w : World) :
    GoesW Try.prog true AtRel D0 (AtLeave Try.prog 14 (PlanPost h ds w) cs) (G (Frame.enter Try.prog 14 #[.int .i64 h, .slice A ds.length cp] .normal) cs) w := by
  have hcmp : decide ((2048 : Int) < (ds.length : Int)) = true := decide_eq_true (by omega)
  have hcmp' : decide (2048 < ds.length) = true := decide_eq_true (by omega)
  rw [enter_at _ Try.func14 (by rfl)]
  have hd : decide (0 ≤ h ∧ h ≤ 63) = true := decide_eq_true hh
  simp only [Try.f14, List.size_toArray, List.length_cons, List.length_nil, Nat.reduceAdd, Nat.reduceSub, Array.replicate_succ, Array.replicate_zero, List.push_toArray, List.append_toArray, List.nil_append, List.cons_append]
  have HA : AtRel w w := at_self w
  repeat (first | (refine gw_step rfl (fun w₁ h₁ => ?_); replace HA := atRel_trans _ _ _ HA h₁; clear h₁; first | (refine goes_oper_k rfl rfl (by decide) (fun K hK => ?_); go_simp; refine hK _ _ ⟨d0_l (listed_nil (by simp [go_sem, *])), ?_⟩; clear hK K) | ((first | rw [stepG_seq] | rw [stepG_skip] | rw [stepG_block] | rw [stepG_loop] | rw [stepG_inLoop] | rw [stepG_inBlock] | rw [stepG_region_end] | (rw [stepG_region]; simp only [List.size_toArray, List.length_cons, List.length_nil, Nat.reduceAdd, Nat.zero_add, List.range, List.range.loop])); simp only [goes_go]; refine ⟨d0_nil _ _, ?_⟩)))
  refine gw_call chk4 rfl rfl (by decide) rfl rfl rfl (high_blind h w) ?_ ?_
  · intro σ
    obtain ⟨d, rfl⟩ := HA
    simp only [List.map_toArray, List.map_cons, List.map_nil]
    exact high_on h σ w
  rintro v w₂ ⟨rfl, hs⟩ ht
  rw [hd]
  replace HA : AtRel w w₂ := sameOn_atRel hs (ht.trans (by obtain ⟨d, rfl⟩ := HA; rfl))
  clear hs ht
  simp only [Act.put]
  repeat (first | (refine gw_step rfl (fun w₁ h₁ => ?_); replace HA := atRel_trans _ _ _ HA h₁; clear h₁; first | (refine goes_oper_k rfl rfl (by decide) (fun K hK => ?_); go_simp; refine hK _ _ ⟨d0_l (listed_nil (by simp [go_sem, *])), ?_⟩; clear hK K) | ((first | rw [stepG_seq] | rw [stepG_skip] | rw [stepG_block] | rw [stepG_loop] | rw [stepG_inLoop] | rw [stepG_inBlock] | rw [stepG_region_end] | (rw [stepG_region]; simp only [List.size_toArray, List.length_cons, List.length_nil, Nat.reduceAdd, Nat.zero_add, List.range, List.range.loop])); simp only [goes_go]; refine ⟨d0_nil _ _, ?_⟩)))
  refine gw_step rfl (fun w₁ h₁ => ?_)
  replace HA := atRel_trans _ _ _ HA h₁
  clear h₁
  rw [stepG_cond (t := false) rfl]
  simp only [goes_go, if_true, if_false, Bool.false_eq_true, ↓reduceIte]
  refine ⟨d0_nil _ _, ?_⟩
  repeat (first | (refine gw_step rfl (fun w₁ h₁ => ?_); replace HA := atRel_trans _ _ _ HA h₁; clear h₁; first | (refine goes_oper_k rfl rfl (by decide) (fun K hK => ?_); go_simp; refine hK _ _ ⟨d0_l (listed_nil (by simp [go_sem, *])), ?_⟩; clear hK K) | ((first | rw [stepG_seq] | rw [stepG_skip] | rw [stepG_block] | rw [stepG_loop] | rw [stepG_inLoop] | rw [stepG_inBlock] | rw [stepG_region_end] | (rw [stepG_region]; simp only [List.size_toArray, List.length_cons, List.length_nil, Nat.reduceAdd, Nat.zero_add, List.range, List.range.loop])); simp only [goes_go]; refine ⟨d0_nil _ _, ?_⟩)))
  refine gw_step rfl (fun w₁ h₁ => ?_)
  replace HA := atRel_trans _ _ _ HA h₁
  clear h₁
  rw [stepG_cond (t := true) rfl]
  simp only [goes_go, if_true, if_false, Bool.false_eq_true, ↓reduceIte]
  refine ⟨d0_nil _ _, ?_⟩
  repeat (first | (refine gw_step rfl (fun w₁ h₁ => ?_); replace HA := atRel_trans _ _ _ HA h₁; clear h₁; first | (refine goes_oper_k rfl rfl (by decide) (fun K hK => ?_); go_simp; refine hK _ _ ⟨d0_l (listed_nil (by simp [go_sem, *])), ?_⟩; clear hK K) | ((first | rw [stepG_seq] | rw [stepG_skip] | rw [stepG_block] | rw [stepG_loop] | rw [stepG_inLoop] | rw [stepG_inBlock] | rw [stepG_region_end] | (rw [stepG_region]; simp only [List.size_toArray, List.length_cons, List.length_nil, Nat.reduceAdd, Nat.zero_add, List.range, List.range.loop])); simp only [goes_go]; refine ⟨d0_nil _ _, ?_⟩)))
  refine gw_step rfl (fun w₁ h₁ => ?_)
  replace HA := atRel_trans _ _ _ HA h₁
  clear h₁
  rw [stepG_ret']
  refine ⟨d0_nil _ _, ?_⟩
  refine .stop fun w₂ h₂ => ?_
  replace HA := atRel_trans _ _ _ HA h₂
  obtain ⟨d, rfl⟩ := HA
  have e : planR h ds = ([], 3) := by simp [planR, hh, hl]
  exact atLeave_mk Try.func14 (results_tmp2 (by rfl) _ _ _) ⟨.slice none 0 0, by rw [e]; rfl, by rw [e]; exact Kd.R_nil _ _ _ _ _, below_at (Below.refl _ _) d⟩
/-- Below, but for the tape. -/
structure Bel (B : Nat) (w w' : World) : Prop where
  os : w'.os = w.os
  output : w'.output = w.output
  size : w.heap.size ≤ w'.heap.size
  block : ∀ k, k < B → w'.heap[k]? = w.heap[k]?
theorem Bel.below {B : Nat} {w w' : World} (h : Bel B w w') (ht : w'.tape = w.tape) : Below B w w' := ⟨h.os, ht, h.output, h.size, h.block⟩
theorem bel_on {B : Nat} {w w' : World} {σ : Nat → Question → Nat} {d : Nat} (h : Below B (w.on σ d) w') : Bel B w w' := ⟨h.os, h.output, h.size, h.block⟩
def CloneR (w : World) (ds : List Int) (v : Value) (w' : World) : Prop := Kd.R (Kd.int .u64) 22 w' w.heap.size (fun _ => True) v ds ∧ Bel w.heap.size w w'
theorem clone_blind (w : World) (ds : List Int) : Blind (CloneR w ds) := fun v w' τ d h => ⟨h.1, h.2.os, h.2.output, h.2.size, h.2.block⟩
theorem clone_on (A : Option Addr) (c : Nat) (ds : List Int) (w : World) (hr : Kd.C (Kd.int .u64) w A ds.length ds) (hl : ds.length ≤ 2048) (σ : Nat → Question → Nat) :
    Calls Try.prog 30 #[.slice A ds.length c] (w.on σ 0) fun e w' => ∃ v, e = .returned v ∧ CloneR w ds v w' :=
  (Dp.clone64 A c ds (w.on σ 0) hr (by omega)).mono fun e w' ⟨v, he, h1, h2⟩ => ⟨v, he, h1, bel_on h2⟩
set_option maxHeartbeats 4000000 in
set_option maxRecDepth 100000 in
/-- TO THE GO STATEMENT. -/
theorem plan_go (w : World) (h : Int) (hh : 0 ≤ h ∧ h ≤ 63) (A : Option Addr) (cp : Nat) (ds : List Int) (hl : ds.length ≤ 2048) (hA : Kd.C (Kd.int .u64) w A ds.length ds) (cs : List Frame) :
    GoesW Try.prog true AtRel D0 (fun g w' => ∃ c, AtGoP Try.prog (FinR h A ds.length cp c w'.heap.size w' (ds.length / 2) ((pairsP ds 0 (ds.length / 2)).flatMap (spanC h)) cs) g w' ∧ w.heap.size ≤ c ∧ Below w.heap.size w w')
      (G (Frame.enter Try.prog 14 #[.int .i64 h, .slice A ds.length cp] .normal) cs) w := by
  have hcmp : decide ((2048 : Int) < (ds.length : Int)) = false := decide_eq_false (by omega)
  have hcmp' : decide (2048 < ds.length) = false := decide_eq_false (by omega)
  have hmk : ∀ w₁ : World, (Instr.makeChan 61 (.int .i64 0)).events Try.prog w₁ #[] = #[] := by
    intro w₁
    obtain ⟨i0, hi, hz0, hz1, hz2⟩ := info_parts (P := Try.prog) (show (Try.prog.info? 64).map (fun i => (i.zero, i.size, i.bytes)) = some (some (.agg #[.int .u64 0, .int .u64 0]), 2, 16) by kernel_rfl)
    exact events_makeChan (P := Try.prog) (w := w₁) Try.underlying61 hi .i64 0 (by decide) (by simp) #[]
  rw [enter_at _ Try.func14 (by rfl)]
  have hd : decide (0 ≤ h ∧ h ≤ 63) = true := decide_eq_true hh
  simp only [Try.f14, List.size_toArray, List.length_cons, List.length_nil, Nat.reduceAdd, Nat.reduceSub, Array.replicate_succ, Array.replicate_zero, List.push_toArray, List.append_toArray, List.nil_append, List.cons_append]
  have HA : AtRel w w := at_self w
  repeat (first | (refine gw_step rfl (fun w₁ h₁ => ?_); replace HA := atRel_trans _ _ _ HA h₁; clear h₁; first | (refine goes_oper_k rfl rfl (by decide) (fun K hK => ?_); go_simp; refine hK _ _ ⟨d0_l (listed_nil (by simp [go_sem, *])), ?_⟩; clear hK K) | ((first | rw [stepG_seq] | rw [stepG_skip] | rw [stepG_block] | rw [stepG_loop] | rw [stepG_inLoop] | rw [stepG_inBlock] | rw [stepG_region_end] | (rw [stepG_region]; simp only [List.size_toArray, List.length_cons, List.length_nil, Nat.reduceAdd, Nat.zero_add, List.range, List.range.loop])); simp only [goes_go]; refine ⟨d0_nil _ _, ?_⟩)))
  refine gw_call chk4 rfl rfl (by decide) rfl rfl rfl (high_blind h w) ?_ ?_
  · intro σ
    obtain ⟨d, rfl⟩ := HA
    simp only [List.map_toArray, List.map_cons, List.map_nil]
    exact high_on h σ w
  rintro v w₂ ⟨rfl, hs⟩ ht
  rw [hd]
  replace HA : AtRel w w₂ := sameOn_atRel hs (ht.trans (by obtain ⟨d, rfl⟩ := HA; rfl))
  clear hs ht
  simp only [Act.put]
  repeat (first | (refine gw_step rfl (fun w₁ h₁ => ?_); replace HA := atRel_trans _ _ _ HA h₁; clear h₁; first | (refine goes_oper_k rfl rfl (by decide) (fun K hK => ?_); go_simp; refine hK _ _ ⟨d0_l (listed_nil (by simp [go_sem, *])), ?_⟩; clear hK K) | ((first | rw [stepG_seq] | rw [stepG_skip] | rw [stepG_block] | rw [stepG_loop] | rw [stepG_inLoop] | rw [stepG_inBlock] | rw [stepG_region_end] | (rw [stepG_region]; simp only [List.size_toArray, List.length_cons, List.length_nil, Nat.reduceAdd, Nat.zero_add, List.range, List.range.loop])); simp only [goes_go]; refine ⟨d0_nil _ _, ?_⟩)))
  refine gw_step rfl (fun w₁ h₁ => ?_)
  replace HA := atRel_trans _ _ _ HA h₁
  clear h₁
  rw [stepG_cond (t := false) rfl]
  simp only [goes_go, if_true, if_false, Bool.false_eq_true, ↓reduceIte]
  refine ⟨d0_nil _ _, ?_⟩
  repeat (first | (refine gw_step rfl (fun w₁ h₁ => ?_); replace HA := atRel_trans _ _ _ HA h₁; clear h₁; first | (refine goes_oper_k rfl rfl (by decide) (fun K hK => ?_); go_simp; refine hK _ _ ⟨d0_l (listed_nil (by simp [go_sem, *])), ?_⟩; clear hK K) | ((first | rw [stepG_seq] | rw [stepG_skip] | rw [stepG_block] | rw [stepG_loop] | rw [stepG_inLoop] | rw [stepG_inBlock] | rw [stepG_region_end] | (rw [stepG_region]; simp only [List.size_toArray, List.length_cons, List.length_nil, Nat.reduceAdd, Nat.zero_add, List.range, List.range.loop])); simp only [goes_go]; refine ⟨d0_nil _ _, ?_⟩)))
  refine gw_step rfl (fun w₁ h₁ => ?_)
  replace HA := atRel_trans _ _ _ HA h₁
  clear h₁
  rw [stepG_cond (t := false) rfl]
  simp only [goes_go, if_true, if_false, Bool.false_eq_true, ↓reduceIte]
  refine ⟨d0_nil _ _, ?_⟩
  repeat (first | (refine gw_step rfl (fun w₁ h₁ => ?_); replace HA := atRel_trans _ _ _ HA h₁; clear h₁; first | (refine goes_oper_k rfl rfl (by decide) (fun K hK => ?_); go_simp; refine hK _ _ ⟨d0_l (listed_nil (by simp [go_sem, *])), ?_⟩; clear hK K) | ((first | rw [stepG_seq] | rw [stepG_skip] | rw [stepG_block] | rw [stepG_loop] | rw [stepG_inLoop] | rw [stepG_inBlock] | rw [stepG_region_end] | (rw [stepG_region]; simp only [List.size_toArray, List.length_cons, List.length_nil, Nat.reduceAdd, Nat.zero_add, List.range, List.range.loop])); simp only [goes_go]; refine ⟨d0_nil _ _, ?_⟩)))
  obtain ⟨d, rfl⟩ := HA
  change GoesW _ _ _ _ _ _ ((w.at d).alloc (.chan 0 #[] false 0 0 false))
  have ec : (w.at d).heap.size = w.heap.size := rfl
  have HA : AtRel (w.alloc (.chan 0 #[] false 0 0 false)) ((w.at d).alloc (.chan 0 #[] false 0 0 false)) := ⟨d, rfl⟩
  simp only [Act.put, ec]
  generalize (w.at d).alloc (.chan 0 #[] false 0 0 false) = w3 at HA ⊢
  clear ec
  repeat (first | (refine gw_step rfl (fun w₁ h₁ => ?_); replace HA := atRel_trans _ _ _ HA h₁; clear h₁; first | (refine goes_oper_k rfl rfl (by decide) (fun K hK => ?_); go_simp; refine hK _ _ ⟨d0_l (listed_nil (by simp [go_sem, *])), ?_⟩; clear hK K) | ((first | rw [stepG_seq] | rw [stepG_skip] | rw [stepG_block] | rw [stepG_loop] | rw [stepG_inLoop] | rw [stepG_inBlock] | rw [stepG_region_end] | (rw [stepG_region]; simp only [List.size_toArray, List.length_cons, List.length_nil, Nat.reduceAdd, Nat.zero_add, List.range, List.range.loop])); simp only [goes_go]; refine ⟨d0_nil _ _, ?_⟩)))
  have hA2 : Kd.C (Kd.int .u64) (w.alloc (.chan 0 #[] false 0 0 false)) A ds.length ds := Kd.C_alloc hA _
  obtain ⟨wc, hwc⟩ : ∃ wc, wc = w.alloc (.chan 0 #[] false 0 0 false) := ⟨_, rfl⟩
  rw [← hwc] at hA2 HA
  refine gw_call chk4 rfl rfl (by decide) rfl rfl rfl (clone_blind wc ds) ?_ ?_
  · intro σ
    obtain ⟨d, rfl⟩ := HA
    simp only [List.map_toArray, List.map_cons, List.map_nil]
    exact clone_on A cp ds wc hA2 hl σ
  rintro v w₂ ⟨hR, hs⟩ ht
  have hb : Below wc.heap.size wc w₂ := hs.below (ht.trans (by obtain ⟨d, rfl⟩ := HA; rfl))
  clear HA hs ht
  have HA : AtRel w₂ w₂ := at_self w₂
  obtain ⟨A', cp', rfl⟩ := Kd.R_slice hR
  simp only [Act.put]
  repeat (first | (refine gw_step rfl (fun w₁ h₁ => ?_); replace HA := atRel_trans _ _ _ HA h₁; clear h₁; first | (refine goes_oper_k rfl rfl (by decide) (fun K hK => ?_); go_simp; refine hK _ _ ⟨d0_l (listed_nil (by simp [go_sem, *])), ?_⟩; clear hK K) | ((first | rw [stepG_seq] | rw [stepG_skip] | rw [stepG_block] | rw [stepG_loop] | rw [stepG_inLoop] | rw [stepG_inBlock] | rw [stepG_region_end] | (rw [stepG_region]; simp only [List.size_toArray, List.length_cons, List.length_nil, Nat.reduceAdd, Nat.zero_add, List.range, List.range.loop])); simp only [goes_go]; refine ⟨d0_nil _ _, ?_⟩)))
  refine .stop fun w₄ h₄ => ?_
  replace HA := atRel_trans _ _ _ HA h₄
  obtain ⟨d, rfl⟩ := HA
  have hz : wc.heap.size = w.heap.size + 1 := by rw [hwc]; exact Array.size_push _
  have hc : (w₂.at d).heap[w.heap.size]? = some (.chan 0 #[] false 0 0 false) := by
    refine (hb.block _ (by omega)).trans ?_
    rw [hwc]
    exact heap_alloc_new w _
  refine ⟨w.heap.size, ?_, Nat.le_refl _, ?_⟩
  · exact atGo_P h hh.1 hh.2 A A' ds.length cp cp' w.heap.size (fun i => if i = 4 then .slice none 0 0 else if i = 5 then .int .i64 0 else if i = 11 then .bool false else if i = 12 then .int .i64 h else if i = 13 then .bool true else if i = 14 then .bool false else if i = 15 then .bool false else if i = 16 then .slice A ds.length cp else if i = 17 then .int .i64 ds.length else if i = 18 then .bool false else if i = 19 then .chan (some w.heap.size) else if i = 20 then .slice A ds.length cp else undef) cs (w₂.at d) ds hc hl (Kd.R_reads' hR).2.2 (fun ad e => by
      subst e
      have h1 := Kd.R_lt hR ad.block rfl
      have h2 := Kd.R_base hR ad.block rfl
      exact ⟨h1, by omega⟩)
  · have h1 : Below w.heap.size w wc := by
      rw [hwc]
      exact below_alloc (Below.refl _ _) _
    exact below_at (h1.trans (hb.mono (by omega))) d
/-- ████ draw.Plan's COURSE. ████ -/
theorem plan_course (h : Int) (A : Option Addr) (cp : Nat) (ds : List Int) (cs : List Frame) (w : World) (hA : Kd.C (Kd.int .u64) w A ds.length ds) :
    Course Try.prog (AtLeave Try.prog 14 (PlanPost h ds w) cs) (G (Frame.enter Try.prog 14 #[.int .i64 h, .slice A ds.length cp] .normal) cs) w := by
  by_cases hh : 0 ≤ h ∧ h ≤ 63
  · by_cases hl : ds.length ≤ 2048
    · refine (Course.goes (plan_go w h hh A cp ds hl hA cs)).andThen fun g w₁ hS => ?_
      obtain ⟨c, hG, hc, hb⟩ := hS
      refine (Course.pipe hG).andThen fun g₂ w₂ hF => ?_
      refine Course.goes ((plan_end h A ds.length cp c w₁.heap.size w₁ (ds.length / 2) _ cs g₂ w₂ hF).mono fun g₃ w₃ hL => ?_)
      refine hL.mono fun v hv => ?_
      obtain ⟨v', M, rfl, hH⟩ := hv
      exact post_of_HR hh hl rfl hc hb hH
    · exact Course.goes (plan_long h hh A cp ds hl cs w)
  · exact Course.goes (plan_low h hh A ds.length cp ds cs w)
end Go.Proofs.Ytaeaacdjiijooaa.Co

namespace Go.Proofs.Ytaeaacdjiijooaa.Co
open Go.Conc Go.RowKit Go.Proofs.Ytaeaacdjiijooaa.Lift Go.Proofs.YtaeaacdjiijooaaW.PrintWords Go.Proofs.YtaeaacdjiijooaaW.PrintLast Go.Proofs.YtaeaacdjiijooaaW.PrintMore
open Go.Proofs.Ytaeaacdjiijooaa.Dp (S29 k29)
set_option linter.unusedVariables false
set_option linter.unusedSimpArgs false
def LawPost (w : World) (v : Value) (w' : World) : Prop := v = .bool true ∧ Below w.heap.size w w'
set_option maxHeartbeats 4000000 in
set_option maxRecDepth 100000 in
/-- MORE DRAWS THAN THE LAW LOOKS AT. -/
theorem plans_long (a0 : Int) (A1 : Option Addr) (n1 c1 : Nat) (hn : 3000 < n1) (w : World) :
    GoesW Try.prog true AtRel D0 (AtLeave Try.prog 4 (LawPost w) []) (G (Frame.enter Try.prog 4 #[.int .i64 a0, .slice A1 n1 c1] .normal) []) w := by
  rw [enter_at _ Try.func4 (by rfl)]
  have hcmp : decide ((3000 : Int) < (n1 : Int)) = true := decide_eq_true (by omega)
  have hcmp' : decide (3000 < n1) = true := decide_eq_true (by omega)
  simp only [Try.f4, List.size_toArray, List.length_cons, List.length_nil, Nat.reduceAdd, Nat.reduceSub, Array.replicate_succ, Array.replicate_zero, List.push_toArray, List.append_toArray, List.nil_append, List.cons_append]
  have HA : AtRel w w := at_self w
  repeat (first | (refine gw_step rfl (fun w₁ h₁ => ?_); replace HA := atRel_trans _ _ _ HA h₁; clear h₁; first | (refine goes_oper_k rfl rfl (by decide) (fun K hK => ?_); go_simp; refine hK _ _ ⟨d0_l (listed_nil (by simp [go_sem, *])), ?_⟩; clear hK K) | ((first | rw [stepG_seq] | rw [stepG_skip] | rw [stepG_block] | rw [stepG_loop] | rw [stepG_inLoop] | rw [stepG_inBlock] | rw [stepG_region_end] | (rw [stepG_region]; simp only [List.size_toArray, List.length_cons, List.length_nil, Nat.reduceAdd, Nat.zero_add, List.range, List.range.loop])); simp only [goes_go]; refine ⟨d0_nil _ _, ?_⟩)))
  refine gw_step rfl (fun w₁ h₁ => ?_)
  replace HA := atRel_trans _ _ _ HA h₁
  clear h₁
  rw [stepG_cond (t := true) rfl]
  simp only [goes_go, if_true, if_false, Bool.false_eq_true, ↓reduceIte]
  refine ⟨d0_nil _ _, ?_⟩
  repeat (first | (refine gw_step rfl (fun w₁ h₁ => ?_); replace HA := atRel_trans _ _ _ HA h₁; clear h₁; first | (refine goes_oper_k rfl rfl (by decide) (fun K hK => ?_); go_simp; refine hK _ _ ⟨d0_l (listed_nil (by simp [go_sem, *])), ?_⟩; clear hK K) | ((first | rw [stepG_seq] | rw [stepG_skip] | rw [stepG_block] | rw [stepG_loop] | rw [stepG_inLoop] | rw [stepG_inBlock] | rw [stepG_region_end] | (rw [stepG_region]; simp only [List.size_toArray, List.length_cons, List.length_nil, Nat.reduceAdd, Nat.zero_add, List.range, List.range.loop])); simp only [goes_go]; refine ⟨d0_nil _ _, ?_⟩)))
  refine gw_step rfl (fun w₁ h₁ => ?_)
  replace HA := atRel_trans _ _ _ HA h₁
  clear h₁
  rw [stepG_ret']
  refine ⟨d0_nil _ _, ?_⟩
  refine .stop fun w₂ h₂ => ?_
  replace HA := atRel_trans _ _ _ HA h₂
  obtain ⟨d, rfl⟩ := HA
  exact atLeave_mk Try.func4 (results_tmp (by rfl) _ _ _) ⟨rfl, below_at (Below.refl _ _) d⟩
/-- The frame's items at the call of draw.Plan, and behind it. -/
noncomputable def opsL : Array Oper := match Try.f4.body with
  | some (.seq _ (.seq _ (.seq _ (.seq (.region _ ops _) _)))) => ops
  | _ => #[]
/-- The law's slots at the call of draw.Plan. -/
def TC (a0 : Int) (A1 : Option Addr) (n1 c1 : Nat) (Ao : Option Addr) (n co : Nat) (J : Nat → Value) : Array Value :=
  #[.int .i64 a0, .slice A1 n1 c1, J 2, J 3, .bool false, .slice Ao n co, J 6, J 7, J 8, J 9, J 10, J 11, J 12, J 13, J 14, J 15, J 16, J 17, .int .i64 a0, .slice Ao n co, J 20, J 21, J 22, J 23, J 24, J 25, J 26, J 27, J 28, J 29, J 30, J 31, J 32, J 33, J 34, J 35, J 36, J 37, J 38, J 39, J 40, J 41, J 42, J 43, J 44, J 45, J 46, J 47, J 48, J 49, J 50, J 51]
theorem reps_int (w : World) (base : Nat) (ok : Nat → Prop) : ∀ l : List Int, Reps ((Kd.int .u64).M w base ok) 1 l (l.map (.int .u64))
  | [] => Reps.none _ _
  | x :: l => by
    obtain ⟨h1, h2⟩ := reps_int w base ok l
    refine ⟨by simp, fun j y hy => ?_⟩
    cases j with
    | zero =>
      simp only [List.getElem?_cons_zero, Option.some.injEq] at hy
      subst hy
      rfl
    | succ j =>
      have hy' : l[j]? = some y := by simpa using hy
      have := h2 j y hy'
      rw [Nat.mul_one] at this ⊢
      exact this
/-- append([]uint64{}, draws...) -/
theorem append_l (A1 : Option Addr) (l1 : List Int) (c1 : Nat) (hn : l1.length ≤ 3000) (w wa : World) (hr1 : Kd.C (Kd.int .u64) w A1 l1.length l1) (hA : A1 = none → c1 = 0) (hb : Below w.heap.size w wa) (g : Nat) (hg : w.heap.size ≤ g)
    (hown : wa.ownsRow w.heap.size 22 1 (.slice (some ⟨g, 0, none⟩) 0 0) 0 []) :
    ∃ v' w', (Builtin.append_ #[35, 35] 35 #[.slice (some ⟨g, 0, none⟩) 0 0, .slice A1 l1.length c1]).run Try.prog wa = .ok v' w' ∧ Kd.R (Kd.int .u64) 22 w' w.heap.size (fun _ => True) v' l1 ∧ Below w.heap.size w w' := by
  obtain ⟨i0, hi, hz0, hz1, hz2⟩ := info_parts (P := Try.prog) (show (Try.prog.info? 22).map (fun i => (i.zero, i.size, i.bytes)) = some (some (.int .u64 0), 1, 8) by kernel_rfl)
  have hs := hb.size
  cases A1 with
  | none =>
    obtain rfl := hA rfl
    have hl : l1 = [] := by
      cases l1 with
      | nil => rfl
      | cons x xs =>
        obtain ⟨ad, e, _⟩ := hr1.2.2 (by simp)
        cases e
    subst hl
    exact ⟨_, wa, run_append_owned_none (P := Try.prog) (w := wa) w.heap.size 35 35 22 i0 1 Try.underlying35 hi _ 0 [] hown, ⟨fun _ _ => trivial, _, hown, Reps.none _ _⟩, hb⟩
  | some ad =>
    have hnews : ∀ j u, (l1.map (Value.int .u64))[j]? = some u → wa.cell? (ad.add j) = some u := by
      intro j u hj
      have hlt : j < l1.length := by
        have := (List.getElem?_eq_some_iff.1 hj).1
        simpa using this
      obtain ⟨ad', e, hx⟩ := Kd.at_int hr1 (j : Int) (by omega) (by omega)
      cases e
      have hx' := (hb.cell (World.block_lt_of_cell? w _ hx)).trans hx
      have e2 : (l1.map (Value.int .u64))[j]? = some (.int .u64 (rd l1 (j : Int))) := by
        rw [List.getElem?_map, List.getElem?_eq_getElem hlt]
        simp [rd, List.getD_eq_getElem?_getD, List.getElem?_eq_getElem hlt]
      rw [e2] at hj
      cases hj
      exact hx'
    have h1c : ∀ u ∈ l1.map (Value.int .u64), u.oneCell' = true := by
      intro u hu
      obtain ⟨x, _, rfl⟩ := List.mem_map.1 hu
      rfl
    obtain ⟨v', w', hrun, hown', hgr, _⟩ := run_append_own (P := Try.prog) (w := wa) w.heap.size 35 35 22 i0 _ 1 8 Try.underlying35 hi hz0 hz1 hz2 rfl (by decide) _ 0 [] hown ad l1.length c1 (l1.map (Value.int .u64)) (by simp) hnews h1c (by simp only [maxLen]; omega) (by omega) hs
    rw [Nat.zero_add, List.nil_append] at hown'
    exact ⟨v', w', hrun, ⟨fun _ _ => trivial, _, hown', reps_int _ _ _ _⟩, pw_below_grown hb _ hs hgr (fun k hk => by cases hk; exact hg)⟩
set_option maxHeartbeats 4000000 in
set_option maxRecDepth 100000 in
theorem plans_pre (a0 : Int) (A1 : Option Addr) (l1 : List Int) (c1 : Nat) (hn : l1.length ≤ 3000) (w : World) (hr1 : Kd.C (Kd.int .u64) w A1 l1.length l1) (hA1 : A1 = none → c1 = 0) :
    GoesW Try.prog true AtRel D0 (fun g w' => ∃ (Ao : Option Addr) (co : Nat) (J : Nat → Value), g = G ((base 4).at ⟨TC a0 A1 l1.length c1 Ao l1.length co J, []⟩ [.inRegion opsL [2, 3, 4, 5, 6, 7], .code Dp.restL]) [] ∧ Below w.heap.size w w' ∧ Kd.R (Kd.int .u64) 22 w' w.heap.size (fun _ => True) (.slice Ao l1.length co) l1)
      (G (Frame.enter Try.prog 4 #[.int .i64 a0, .slice A1 l1.length c1] .normal) []) w := by
  rw [enter_at _ Try.func4 (by rfl)]
  have hcmp : decide ((3000 : Int) < (l1.length : Int)) = false := decide_eq_false (by omega)
  have hcmp' : decide (3000 < l1.length) = false := decide_eq_false (by omega)
  simp only [Try.f4, List.size_toArray, List.length_cons, List.length_nil, Nat.reduceAdd, Nat.reduceSub, Array.replicate_succ, Array.replicate_zero, List.push_toArray, List.append_toArray, List.nil_append, List.cons_append]
  have HA : AtRel w w := at_self w
  repeat (first | (refine gw_step rfl (fun w₁ h₁ => ?_); replace HA := atRel_trans _ _ _ HA h₁; clear h₁; first | (refine goes_oper_k rfl rfl (by decide) (fun K hK => ?_); go_simp; refine hK _ _ ⟨d0_l (listed_nil (by simp [go_sem, *])), ?_⟩; clear hK K) | ((first | rw [stepG_seq] | rw [stepG_skip] | rw [stepG_block] | rw [stepG_loop] | rw [stepG_inLoop] | rw [stepG_inBlock] | rw [stepG_region_end] | (rw [stepG_region]; simp only [List.size_toArray, List.length_cons, List.length_nil, Nat.reduceAdd, Nat.zero_add, List.range, List.range.loop])); simp only [goes_go]; refine ⟨d0_nil _ _, ?_⟩)))
  refine gw_step rfl (fun w₁ h₁ => ?_)
  replace HA := atRel_trans _ _ _ HA h₁
  clear h₁
  rw [stepG_cond (t := false) rfl]
  simp only [goes_go, if_true, if_false, Bool.false_eq_true, ↓reduceIte]
  refine ⟨d0_nil _ _, ?_⟩
  repeat (first | (refine gw_step rfl (fun w₁ h₁ => ?_); replace HA := atRel_trans _ _ _ HA h₁; clear h₁; first | (refine goes_oper_k rfl rfl (by decide) (fun K hK => ?_); go_simp; refine hK _ _ ⟨d0_l (listed_nil (by simp [go_sem, *])), ?_⟩; clear hK K) | ((first | rw [stepG_seq] | rw [stepG_skip] | rw [stepG_block] | rw [stepG_loop] | rw [stepG_inLoop] | rw [stepG_inBlock] | rw [stepG_region_end] | (rw [stepG_region]; simp only [List.size_toArray, List.length_cons, List.length_nil, Nat.reduceAdd, Nat.zero_add, List.range, List.range.loop])); simp only [goes_go]; refine ⟨d0_nil _ _, ?_⟩)))
  obtain ⟨d, rfl⟩ := HA
  have ec : (w.at d).heap.size = w.heap.size := rfl
  have HA : AtRel (w.alloc (.cells #[] 22)) ((w.at d).alloc (.cells #[] 22)) := ⟨d, rfl⟩
  simp only [Act.put, ec]
  generalize (w.at d).alloc (.cells #[] 22) = w3 at HA ⊢
  clear ec
  repeat (first | (refine gw_step rfl (fun w₁ h₁ => ?_); replace HA := atRel_trans _ _ _ HA h₁; clear h₁; first | (refine goes_oper_k rfl rfl (by decide) (fun K hK => ?_); go_simp; refine hK _ _ ⟨d0_l (listed_nil (by simp [go_sem, *])), ?_⟩; clear hK K) | ((first | rw [stepG_seq] | rw [stepG_skip] | rw [stepG_block] | rw [stepG_loop] | rw [stepG_inLoop] | rw [stepG_inBlock] | rw [stepG_region_end] | (rw [stepG_region]; simp only [List.size_toArray, List.length_cons, List.length_nil, Nat.reduceAdd, Nat.zero_add, List.range, List.range.loop])); simp only [goes_go]; refine ⟨d0_nil _ _, ?_⟩)))
  refine gw_step rfl (fun w₁ h₁ => ?_)
  replace HA := atRel_trans _ _ _ HA h₁
  clear h₁
  obtain ⟨d, rfl⟩ := HA
  have hb0 : Below w.heap.size w (w.alloc (.cells #[] 22)) := below_alloc (Below.refl _ _) _
  obtain ⟨v', w', hrun, hR, hb⟩ := append_l A1 l1 c1 hn w ((w.alloc (.cells #[] 22)).at d) hr1 hA1 (below_at hb0 d) w.heap.size (Nat.le_refl _) (World.ownsRow_lit w #[] 0 (Nat.le_refl _) (by simp [maxLen]) rfl)
  refine goes_oper_k rfl rfl (by decide) (fun K hK => ?_)
  refine uponK_append (.tmp 14) (.tmp 15) 35 rfl rfl rfl hrun (hK _ _ ⟨ev_append (.tmp 14) (.tmp 15) 35 rfl, ?_⟩)
  clear hK K hrun
  obtain ⟨Ao, co, rfl⟩ := Kd.R_slice hR
  have HA : AtRel w' w' := at_self w'
  simp only [Act.put]
  repeat (first | (refine gw_step rfl (fun w₁ h₁ => ?_); replace HA := atRel_trans _ _ _ HA h₁; clear h₁; first | (refine goes_oper_k rfl rfl (by decide) (fun K hK => ?_); go_simp; refine hK _ _ ⟨d0_l (listed_nil (by simp [go_sem, *])), ?_⟩; clear hK K) | ((first | rw [stepG_seq] | rw [stepG_skip] | rw [stepG_block] | rw [stepG_loop] | rw [stepG_inLoop] | rw [stepG_inBlock] | rw [stepG_region_end] | (rw [stepG_region]; simp only [List.size_toArray, List.length_cons, List.length_nil, Nat.reduceAdd, Nat.zero_add, List.range, List.range.loop])); simp only [goes_go]; refine ⟨d0_nil _ _, ?_⟩)))
  refine .stop fun w₄ h₄ => ?_
  replace HA := atRel_trans _ _ _ HA h₄
  obtain ⟨d, rfl⟩ := HA
  exact ⟨Ao, co, fun i => if i = 11 then .slice A1 l1.length c1 else if i = 12 then .int .i64 l1.length else if i = 13 then .bool false else if i = 14 then .slice (some ⟨w.heap.size, 0, none⟩) 0 0 else if i = 15 then .slice A1 l1.length c1 else if i = 16 then .slice Ao l1.length co else undef, rfl, below_at hb d, hR⟩
/-- What the law says in plain words: the rest of it answers true. -/
def PlansPure : Prop := ∀ (a0 : Int) (l1 : List Int), l1.length ≤ 3000 → (∀ x ∈ l1, (Lit.int .u64 x).wf = true) → (Lit.int .i64 a0).wf = true →
  ∃ k, ((Dp.paymasterref22_Plan.f k a0 l1).bind fun bt134 => (Dp.paymasterlaw22_DrawPlans.l0 k l1 l1 (planR a0 l1).1 (planR a0 l1).2 bt134.1 bt134.2 0)) = some true
theorem law_blind (w : World) : Blind fun v w' => v = .bool true ∧ Bel w.heap.size w w' := fun v w' τ d h => ⟨h.1, h.2.os, h.2.output, h.2.size, h.2.block⟩
set_option maxHeartbeats 4000000 in
set_option maxRecDepth 100000 in
/-- ████ THE LAW's COURSE. ████ -/
theorem plans_course (hP : PlansPure) (a0 : Int) (A1 : Option Addr) (l1 : List Int) (c1 : Nat) (w : World) (hr1 : Kd.C (Kd.int .u64) w A1 l1.length l1) (hc1 : l1.length ≤ c1) (hA1 : A1 = none → c1 = 0) (hw1 : ∀ x ∈ l1, (Lit.int .u64 x).wf = true) (hw0 : (Lit.int .i64 a0).wf = true) :
    Course Try.prog (AtLeave Try.prog 4 (LawPost w) []) (G (Frame.enter Try.prog 4 #[.int .i64 a0, .slice A1 l1.length c1] .normal) []) w := by
  by_cases hn : l1.length ≤ 3000
  · obtain ⟨k, hk⟩ := hP a0 l1 hn hw1 hw0
    refine (Course.goes (plans_pre a0 A1 l1 c1 hn w hr1 hA1)).andThen fun g w₁ hS => ?_
    obtain ⟨Ao, co, J, rfl, hb, hR⟩ := hS
    refine Course.call (o := opsL[2]) (body := Try.f14.body.getD .skip) rfl rfl (by decide) rfl Try.func14 (by decide) rfl (vs := #[.int .i64 a0, .slice Ao l1.length co]) ?_ (plan_course a0 Ao co l1 _ w₁ (Kd.R_reads' hR).2.2) ?_
    · simp [Act.eval, TC]
    rintro v w₂ ⟨v, rfl, hS, hb₂⟩
    have hbb : Below w.heap.size w w₂ := hb.trans (hb₂.mono hb.size)
    have hR₂ : Kd.R (Kd.int .u64) 22 w₂ w.heap.size (fun _ => True) (.slice Ao l1.length co) l1 := Kd.R_below hR hb₂
    have hS₂ := Kd.R_lower hS hb.size
    refine Course.goes ?_
    have HA : AtRel w₂ w₂ := at_self w₂
    simp only [opsL, Try.f4, TC, Act.put]
    repeat (first | (refine gw_step rfl (fun w₁ h₁ => ?_); replace HA := atRel_trans _ _ _ HA h₁; clear h₁; first | (refine goes_oper_k rfl rfl (by decide) (fun K hK => ?_); go_simp; refine hK _ _ ⟨d0_l (listed_nil (by simp [go_sem, *])), ?_⟩; clear hK K) | ((first | rw [stepG_seq] | rw [stepG_skip] | rw [stepG_block] | rw [stepG_loop] | rw [stepG_inLoop] | rw [stepG_inBlock] | rw [stepG_region_end] | (rw [stepG_region]; simp only [List.size_toArray, List.length_cons, List.length_nil, Nat.reduceAdd, Nat.zero_add, List.range, List.range.loop])); simp only [goes_go]; refine ⟨d0_nil _ _, ?_⟩)))
    obtain ⟨d, rfl⟩ := HA
    have hrest := gw_rest chk4 Try.func4 rfl rfl (c := Dp.restL) (by kernel_rfl) (T := Dp.TL a0 A1 l1.length c1 Ao l1.length co v (planR a0 l1).2 (fun i => if i = 17 then .tuple #[v, .int .i64 (planR a0 l1).2] else if i = 18 then .int .i64 a0 else if i = 19 then .slice Ao l1.length co else if i = 20 then .tuple #[v, .int .i64 (planR a0 l1).2] else if i = 21 then v else if i = 22 then .int .i64 (planR a0 l1).2 else J i)) (law_blind w) (w := w₂.at d) (fun σ => ?_) []
    · exact hrest.mono fun g w₃ hL => hL.mono fun v' hv => ⟨hv.1.1, hv.1.2.below (hv.2.trans hbb.tape)⟩
    · refine wp_mono (Dp.plans_rest k a0 A1 c1 l1 l1 (planR a0 l1).1 (planR a0 l1).2 true (w.on σ 0) (w₂.on σ 0) hr1 hc1 ⟨hbb.os, rfl, hbb.output, hbb.size, hbb.block⟩ Ao co v hR₂ hS₂ _ hk) fun e a w₄ hq => ?_
      cases e with
      | normal => obtain ⟨h1, v, h2, h3, h4⟩ := hq; exact ⟨h1, v, h2, v, rfl, by injection h3, bel_on h4⟩
      | ret => obtain ⟨h1, v, h2, h3, h4⟩ := hq; exact ⟨h1, v, h2, v, rfl, by injection h3, bel_on h4⟩
      | panic chain => obtain ⟨_, h3, _⟩ := hq; cases h3
      | exit id => exact hq.elim
      | goto l => exact hq.elim
      | outgrown => obtain ⟨h3, _⟩ := hq; cases h3
  · exact Course.goes (plans_long a0 A1 l1.length c1 (by omega) w)
end Go.Proofs.Ytaeaacdjiijooaa.Co
