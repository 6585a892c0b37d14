import Derived.Test.YtaeaacdjiijooaaLiftQ
namespace Go.Proofs.Ytaeaacdjiijooaa.Lift
open Go Go.Conc
set_option linter.unusedVariables false
/-! ### a lone run, lifted -/
theorem still_results (fn : Func) (t : Array Value) : Still (results fn t) := by
  unfold results
  refine Still.bind' (Still.mapM_array _ (fun a => ?_) _) (fun _ => still_pure _)
  cases a
  · exact still_pure _
  · exact Still.bind' (still_asAddr _) (fun _ => still_loadVar _ _)
theorem finish_mode (fr : Frame) (v : Value) : (fr.finish v).mode = fr.mode := by
  unfold Frame.finish
  split <;> rfl
/-- The frames of the walk: the top one, and those that wait for it. -/
def Tops (C : Chk) (fr : Frame) (ups : List Frame) : Prop := FrOk C fr ∧ ∀ c ∈ ups, FrOk C c ∧ c.mode = .run ∧ ∀ v, FrOk C (c.finish v)
theorem Win.self (w : World) (N : Nat) : Win w N w.tape w.drawn := fun _ _ => rfl
section
variable {P : Program} {C : Chk}
theorem stepG_unwind {fr : Frame} (hm : fr.mode ≠ .run) (cs : List Frame) (w : World) : stepG P true (G fr cs) w = unwind P true fr cs none w := by
  unfold stepG G
  cases h : fr.mode with
  | run => exact absurd h hm
  | _ => simp only [h]
theorem step_tops (hC : ChkOk P C) {fr : Frame} {ups : List Frame} (h : Tops C fr ups) (hne : fr.mode = .run ∨ ups ≠ []) (w : World) : ∃ N,
    (∃ (fr' : Frame) (ups' : List Frame) (w' : World) (es : Array Event), Ev es ∧ Tops C fr' ups' ∧ ∀ σ e, Win w N σ e → ∀ X, stepG P true (G fr (ups ++ X)) (w.on σ e) = .go (G fr' (ups' ++ X)) (w'.on σ (e + N)) es) ∨
    (∀ σ e, Win w N σ e → ∀ X, ∃ o w' es, stepG P true (G fr (ups ++ X)) (w.on σ e) = .ended o w' es) := by
  obtain ⟨hf, hu⟩ := h
  obtain ⟨fn, body, hfn, hb⟩ := hC.entry hf.fnS
  cases hm : fr.mode with
  | run =>
    obtain ⟨N, h⟩ := exec_out hC hf hm w
    refine ⟨N, ?_⟩
    rcases h with ⟨fr', w', es, he, hf', hs⟩ | ⟨fr₂, w', es, he, hf₂, hv, hm₂, hs⟩ | h
    · exact .inl ⟨fr', ups, w', es, he, ⟨hf', hu⟩, fun σ e hw X => hs σ e hw _⟩
    · refine .inl ⟨fr₂, fr :: ups, w', es, he, ⟨hf₂, fun c hc => ?_⟩, fun σ e hw X => hs σ e hw _⟩
      rcases List.mem_cons.1 hc with rfl | hc
      · exact ⟨hf, hm, hv⟩
      · exact hu c hc
    · exact .inr fun σ e hw X => h σ e hw _
  | panicking ch =>
    cases ups with
    | nil => rcases hne with h | h
             · rw [hm] at h; cases h
             · exact absurd rfl h
    | cons c cs =>
      obtain ⟨hc, hcm, _⟩ := hu c (List.mem_cons_self ..)
      refine ⟨0, .inl ⟨c.raise ch, cs, w, #[], ev_nil, ⟨hc.raise _, fun c' hc' => hu c' (List.mem_cons_of_mem _ hc')⟩, fun σ e _ X => ?_⟩⟩
      rw [stepG_unwind (by rw [hm]; simp)]
      unfold unwind
      simp only [hf.defers, hm, Frame.catches, hfn, List.cons_append]
      rfl
  | returning =>
    cases ups with
    | nil => rcases hne with h | h
             · rw [hm] at h; cases h
             · exact absurd rfl h
    | cons c cs =>
      obtain ⟨hc, hcm, hcv⟩ := hu c (List.mem_cons_self ..)
      obtain ⟨_, _, h3⟩ := runT_on P (results fn fr.tmps) (still_results _ _) w #[]
      have hev := runT_ev P (results fn fr.tmps) (still_results _ _) w #[] ev_nil
      refine ⟨((results fn fr.tmps).runT P w #[]).1.world.drawn - w.drawn, ?_⟩
      generalize hN : ((results fn fr.tmps).runT P w #[]).1.world.drawn - w.drawn = N at h3 ⊢
      cases hr : (results fn fr.tmps).runT P w #[] with
      | mk r es =>
        rw [hr] at h3 hev
        cases r with
        | ok v w' =>
          refine .inl ⟨c.finish v, cs, w', seen P fr.fn es ++ #[], (ev_seen hev).app ev_nil, ⟨hcv v, fun c' hc' => hu c' (List.mem_cons_of_mem _ hc')⟩, fun σ e hw X => ?_⟩
          rw [stepG_unwind (by rw [hm]; simp)]
          unfold unwind
          simp only [hf.defers, hm, hfn, List.cons_append]
          rw [h3 σ e hw]
          simp only [Result.on, doReturn, hf.kind]
          rfl
        | halt x w' =>
          refine .inr fun σ e hw X => ?_
          rw [stepG_unwind (by rw [hm]; simp)]
          unfold unwind
          simp only [hf.defers, hm, hfn, List.cons_append]
          rw [h3 σ e hw]
          cases x <;> exact ⟨_, _, _, rfl⟩
/-! #### the trap -/
/-- Whoever comes back to it is stuck; whoever panics into it is at the run's end. -/
def trap : Frame := { (default : Frame) with mode := .run, todo := [.code (.exit 0)], defers := [{ target := .nil, args := #[] }], roundOf := none }
theorem step_solo_go {a a' : Goroutine} {w w' : World} {es : Array Event} (hs : a.status = .running) (h : stepG P true a w = .go a' w' es) : step P (solo a w) = .next (solo a' w') := by
  unfold step
  rw [stepT_solo hs, runT_solo_go h]
theorem step_solo_ended {a : Goroutine} {w w' : World} {o : Outcome} {es : Array Event} (hs : a.status = .running) (h : stepG P true a w = .ended o w' es) : step P (solo a w) = .ended o w' := by
  unfold step
  rw [stepT_solo hs]
  simp [runT, solo, Array.swapAt!, Array.swapAt, h]
def Doomed (P : Program) (g : Goroutine) (w : World) : Prop := ∀ n fr' w', runN P n (solo g w) = .next (solo (G fr' [trap]) w') → n = 0
theorem Doomed.of_ended {g : Goroutine} {w w' : World} {o : Outcome} {es : Array Event} (hs : g.status = .running) (h : stepG P true g w = .ended o w' es) : Doomed P g w := by
  intro n fr' w' hn
  cases n with
  | zero => rfl
  | succ n =>
    simp only [runN, step_solo_ended hs h] at hn
    cases hn
theorem solo_inj {a b : Goroutine} {w w' : World} (h : solo a w = solo b w') : a = b ∧ w = w' := by
  unfold solo at h
  injection h with h1 h2 h3
  exact ⟨by simpa using h2, h1⟩
/-- Two steps to the run's end. -/
theorem Doomed.of_two {g g' : Goroutine} {w w' w₂ : World} {o : Outcome} {es es₂ : Array Event} (hs : g.status = .running) (hs' : g'.status = .running) (hc : g'.callers = []) (h : stepG P true g w = .go g' w' es) (h' : stepG P true g' w' = .ended o w₂ es₂) : Doomed P g w := by
  intro n fr' w₃ hn
  match n, hn with
  | 0, _ => rfl
  | 1, hn =>
    simp only [runN, step_solo_go hs h] at hn
    injection hn with hn
    have := (solo_inj hn).1
    rw [this] at hc
    cases hc
  | n + 2, hn =>
    simp only [runN, step_solo_go hs h, step_solo_ended hs' h'] at hn
    cases hn
theorem doomed_end (hC : ChkOk P C) {fr : Frame} (hf : FrOk C fr) (hm : fr.mode ≠ .run) (w : World) : Doomed P (G fr [trap]) w := by
  obtain ⟨fn, body, hfn, hb⟩ := hC.entry hf.fnS
  cases hmm : fr.mode with
  | run => exact absurd hmm hm
  | panicking ch =>
    refine Doomed.of_two (g' := G (trap.raise ch) []) (w' := w) (es := #[]) rfl rfl rfl ?_ (o := .unsupported (.noEntry "machine/Return: a deferred call of a nil function value, made while the frame is unwinding") (({ trap.raise ch with defers := [] } : Frame).pos P)) (w₂ := w) (es₂ := #[]) ?_
    · rw [stepG_unwind hm]
      unfold unwind
      simp only [hf.defers, hmm, Frame.catches, hfn]
      rfl
    · rfl
  | returning =>
    cases hr : (results fn fr.tmps).runT P w #[] with
    | mk r es =>
      cases r with
      | ok v w' =>
        refine Doomed.of_two (g' := G (trap.finish v) []) (w' := w') (es := seen P fr.fn es ++ #[]) rfl rfl rfl ?_ (o := .stuck "exit, goto: no such block or label" (trap.pos P)) (w₂ := w') (es₂ := #[]) ?_
        · rw [stepG_unwind hm]
          unfold unwind
          simp only [hf.defers, hmm, hfn]
          rw [hr]
          simp only [doReturn, hf.kind]
          rfl
        · rfl
      | halt x w' =>
        have : ∃ o w₂ es₂, stepG P true (G fr [trap]) w = .ended o w₂ es₂ := by
          rw [stepG_unwind hm]
          unfold unwind
          simp only [hf.defers, hmm, hfn]
          rw [hr]
          cases x <;> exact ⟨_, _, _, rfl⟩
        obtain ⟨o, w₂, es₂, h⟩ := this
        exact Doomed.of_ended rfl h
/-! #### the theorem -/
def Blind (R : Value → World → Prop) : Prop := ∀ v w τ d, R v w → R v (w.on τ d)
/-- The frame stands at its return, with base behind it. -/
def AtLeave (P : Program) (f : FuncId) (R : Value → World → Prop) (base : List Frame) (a : Goroutine) (w : World) : Prop := ∃ fr v, a = G fr base ∧ fr.leaving P w (.returned v) ∧ fr.fn = f ∧ R v w
theorem leaving_on {fr : Frame} {w : World} {v : Value} (h : fr.leaving P w (.returned v)) (τ : Nat → Question → Nat) (d : Nat) : fr.leaving P (w.on τ d) (.returned v) := by
  obtain ⟨h1, h2, h3, fn, hfn, hr⟩ := h
  refine ⟨h1, h2, h3, fn, hfn, ?_⟩
  obtain ⟨_, _, h3⟩ := runT_on P (results fn fr.tmps) (still_results _ _) w #[]
  have e : ((results fn fr.tmps).runT P w #[]).1 = .ok v w := by rw [← hr]; exact Sem.runT_fst ..
  have h4 := h3 τ d (by rw [e]; intro i hi; simp [Result.world] at hi)
  rw [e] at h4
  have : ((results fn fr.tmps).run P (w.on τ d)) = ((results fn fr.tmps).runT P (w.on τ d) #[]).1 := (Sem.runT_fst ..).symm
  rw [this, h4]
  simp [Result.on, Result.world]
/-- ████ A LONE RUN ON EVERY TAPE IS A WALK BESIDE LEAVERS. ████ -/
theorem lift (hC : ChkOk P C) {f : FuncId} {R : Value → World → Prop} (hB : Blind R) {fr₀ : Frame} {ups₀ : List Frame} {w₀ : World} (base : List Frame) (h0 : Tops C fr₀ ups₀)
    (hR : ∀ σ, ∃ n fr' w' v, runN P n (solo (G fr₀ (ups₀ ++ [trap])) (w₀.on σ 0)) = .next (solo (G fr' [trap]) w') ∧ fr'.leaving P w' (.returned v) ∧ fr'.fn = f ∧ R v w') :
    GoesW P true AtRel D0 (AtLeave P f (fun v w => R v w ∧ w.tape = w₀.tape) base) (G fr₀ (ups₀ ++ base)) w₀ := by
  classical
  refine Classical.byContradiction fun hn => ?_
  let St := Frame × List Frame × World
  let Bad (x : St) : Prop := Tops C x.1 x.2.1 ∧ x.2.2.tape = w₀.tape ∧ ¬ GoesW P true AtRel D0 (AtLeave P f (fun v w => R v w ∧ w.tape = w₀.tape) base) (G x.1 (x.2.1 ++ base)) x.2.2
  let Ends (x : St) (d N : Nat) : Prop := ∀ σ e, Win (x.2.2.at d) N σ e → ∀ X, ∃ o w' es, stepG P true (G x.1 (x.2.1 ++ X)) (x.2.2.on σ e) = .ended o w' es
  let Goes1 (x : St) (d N : Nat) (y : St) : Prop := ∃ es, ∀ σ e, Win (x.2.2.at d) N σ e → ∀ X, stepG P true (G x.1 (x.2.1 ++ X)) (x.2.2.on σ e) = .go (G y.1 (y.2.1 ++ X)) (y.2.2.on σ (e + N)) es
  have pick : ∀ x : St, ∃ y : Nat × Nat × St, Bad x → (x.1.mode = .run ∨ x.2.1 ≠ []) → Ends x y.1 y.2.1 ∨ (Goes1 x y.1 y.2.1 y.2.2 ∧ Bad y.2.2) := by
    intro x
    refine Classical.byContradiction fun hc => ?_
    have hc' : ∀ y : Nat × Nat × St, Bad x ∧ (x.1.mode = .run ∨ x.2.1 ≠ []) ∧ ¬ (Ends x y.1 y.2.1 ∨ (Goes1 x y.1 y.2.1 y.2.2 ∧ Bad y.2.2)) := fun y =>
      Classical.byContradiction fun h => hc ⟨y, fun h1 h2 => Classical.byContradiction fun h3 => h ⟨h1, h2, h3⟩⟩
    obtain ⟨hb, hne, _⟩ := hc' (0, 0, x)
    have one : ∀ d, ∃ (N : Nat) (y : St) (es : Array Event), Ev es ∧ (∀ σ e, Win (x.2.2.at d) N σ e → ∀ X, stepG P true (G x.1 (x.2.1 ++ X)) (x.2.2.on σ e) = .go (G y.1 (y.2.1 ++ X)) (y.2.2.on σ (e + N)) es) ∧
        y.2.2.tape = x.2.2.tape ∧ GoesW P true AtRel D0 (AtLeave P f (fun v w => R v w ∧ w.tape = w₀.tape) base) (G y.1 (y.2.1 ++ base)) y.2.2 := by
      intro d
      obtain ⟨N, h⟩ := step_tops hC hb.1 hne (x.2.2.at d)
      rcases h with ⟨fr', ups', w', es, he, ht, hs⟩ | h
      · refine ⟨N, (fr', ups', w'.on x.2.2.tape 0), es, he, hs, rfl, Classical.byContradiction fun hg => ?_⟩
        exact (hc' (d, N, (fr', ups', w'.on x.2.2.tape 0))).2.2 (.inr ⟨⟨es, hs⟩, ht, hb.2.1, hg⟩)
      · exact absurd (.inl h) (hc' (d, N, x)).2.2
    refine hb.2.2 (.step rfl ?_ ?_)
    · rintro _ ⟨d, rfl⟩
      obtain ⟨N, y, es, he, hs, _, _⟩ := one d
      exact ⟨_, _, es, hs x.2.2.tape d (Win.self (x.2.2.at d) N) base, he⟩
    · rintro _ g' w' es ⟨d, rfl⟩ hst
      obtain ⟨N, y, es', he, hs, htp, hg⟩ := one d
      have h1 := hs x.2.2.tape d (Win.self (x.2.2.at d) N) base
      have h2 : stepG P true (G x.1 (x.2.1 ++ base)) (x.2.2.on x.2.2.tape d) = .go g' w' es := hst
      rw [h1] at h2
      injection h2 with e1 e2 e3
      subst e1 e2
      exact hg.rely atRel_trans ⟨d + N, by rw [← htp]; rfl⟩
  obtain ⟨F, hF⟩ := Classical.axiomOfChoice pick
  let s (i : Nat) : St × Nat := Nat.rec ((fr₀, ups₀, w₀), 0) (fun _ x => ((F x.1).2.2, x.2 + (F x.1).2.1)) i
  have hsucc : ∀ i, s (i + 1) = ((F (s i).1).2.2, (s i).2 + (F (s i).1).2.1) := fun _ => rfl
  have hK : ∀ i, (s (i + 1)).2 = (s i).2 + (F (s i).1).2.1 := fun i => by rw [hsucc]
  have hmono : ∀ i j, i ≤ j → (s i).2 ≤ (s j).2 := by
    intro i j hij
    induction hij with
    | refl => exact Nat.le_refl _
    | step _ ih => exact Nat.le_trans ih (by rw [hK]; exact Nat.le_add_right _ _)
  let σ (n : Nat) : Question → Nat := if h : ∃ i, (s i).2 ≤ n ∧ n < (s (i + 1)).2 then
      (s h.choose).1.2.2.tape ((F (s h.choose).1).1 + (n - (s h.choose).2)) else fun _ => 0
  have hσ : ∀ i k, k < (F (s i).1).2.1 → σ ((s i).2 + k) = (s i).1.2.2.tape ((F (s i).1).1 + k) := by
    intro i k hk
    have h : ∃ j, (s j).2 ≤ (s i).2 + k ∧ (s i).2 + k < (s (j + 1)).2 := ⟨i, Nat.le_add_right _ _, by rw [hK]; omega⟩
    have hu : h.choose = i := by
      have hc := h.choose_spec
      rcases Nat.lt_trichotomy h.choose i with hlt | he | hgt
      · have := hmono (h.choose + 1) i hlt
        omega
      · exact he
      · have := hmono (i + 1) h.choose hgt
        rw [hK] at this
        omega
    simp only [σ]
    rw [dif_pos h, hu]
    congr 1
    omega
  have hwin : ∀ i, Win ((s i).1.2.2.at (F (s i).1).1) (F (s i).1).2.1 σ (s i).2 := fun i k hk => hσ i k hk
  have key : ∀ n i, Bad (s i).1 → (∃ fr' w' v, runN P n (solo (G (s i).1.1 ((s i).1.2.1 ++ [trap])) ((s i).1.2.2.on σ (s i).2)) = .next (solo (G fr' [trap]) w') ∧ fr'.leaving P w' (.returned v) ∧ fr'.fn = f ∧ R v w') → False := by
    intro n
    induction n with
    | zero =>
      rintro i hb ⟨fr', w', v, hr, hl, hfn, hRv⟩
      simp only [runN] at hr
      injection hr with hr
      obtain ⟨hg, hw⟩ := solo_inj hr
      have hfr : (s i).1.1 = fr' := congrArg Goroutine.frame hg
      have hcs : (s i).1.2.1 ++ [trap] = [trap] := congrArg Goroutine.callers hg
      have hup : (s i).1.2.1 = [] := by
        have := congrArg List.length hcs
        simp at this
        exact this
      refine hb.2.2 (.stop ?_)
      rintro _ ⟨d, rfl⟩
      refine ⟨fr', v, by rw [hup, hfr]; rfl, ?_, hfn, ?_⟩
      · have := leaving_on hl (s i).1.2.2.tape d
        rw [← hw] at this
        exact this
      · have := hB v w' (s i).1.2.2.tape d hRv
        rw [← hw] at this
        exact ⟨this, hb.2.1⟩
    | succ n ih =>
      rintro i hb ⟨fr', w', v, hr, hl, hfn, hRv⟩
      by_cases hne : (s i).1.1.mode = .run ∨ (s i).1.2.1 ≠ []
      · rcases hF (s i).1 hb hne with he | ⟨⟨es, hg⟩, hb'⟩
        · obtain ⟨o, w₂, es, h⟩ := he σ (s i).2 (hwin i) [trap]
          simp only [runN, step_solo_ended rfl h] at hr
          cases hr
        · have h := hg σ (s i).2 (hwin i) [trap]
          simp only [runN, step_solo_go rfl h] at hr
          exact ih (i + 1) (by rw [hsucc]; exact hb') ⟨fr', w', v, by rw [hsucc]; exact hr, hl, hfn, hRv⟩
      · have hm : (s i).1.1.mode ≠ .run := fun h => hne (.inl h)
        have hup : (s i).1.2.1 = [] := Classical.byContradiction fun h => hne (.inr h)
        rw [hup] at hr
        have := doomed_end hC hb.1.1 hm _ (n + 1) fr' w' hr
        cases this
  obtain ⟨n, fr', w', v, hr, hl, hfn, hRv⟩ := hR σ
  exact key n 0 ⟨h0, rfl, hn⟩ ⟨fr', w', v, hr, hl, hfn, hRv⟩
end
end Go.Proofs.Ytaeaacdjiijooaa.Lift
