import Derived.Test.YtaeaacdjiijooaaLiftP
import Derived.Conc.AppendWalk
namespace Go.Proofs.Ytaeaacdjiijooaa.Lift
open Go Go.Conc
set_option linter.unusedVariables false
/-! ### a walk beside leavers, by hand: control, a call by its contract, the return -/
section
variable {P : Program} {C : Chk} {Stop : Goroutine → World → Prop} {b : Frame} {a : Act} {k : List Item} {cs : List Frame} {w : World}
theorem d0_nil (w w' : World) : D0 w w' #[] := ev_nil
theorem gw_go {g g' : Goroutine} (hs : g.status = .running) (h : ∀ d, ∃ es, stepG P true g (w.at d) = .go g' (w.at d) es ∧ Ev es) (hn : GoesW P true AtRel D0 Stop g' w) : GoesW P true AtRel D0 Stop g w := by
  refine .step hs ?_ ?_
  · rintro _ ⟨d, rfl⟩
    obtain ⟨es, h1, h2⟩ := h d
    exact ⟨_, _, _, h1, h2⟩
  · rintro _ g₂ w₂ es ⟨d, rfl⟩ hst
    obtain ⟨es', h1, h2⟩ := h d
    rw [h1] at hst
    injection hst with e1 e2 e3
    subst e1 e2
    exact hn.rely atRel_trans ⟨d, rfl⟩
theorem gw_step {g : Goroutine} (hs : g.status = .running) (h : ∀ w₁, AtRel w w₁ → (stepG P true g w₁).goes fun g' w' es => D0 w₁ w' es ∧ GoesW P true AtRel D0 Stop g' w') : GoesW P true AtRel D0 Stop g w := by
  refine .step hs (fun w₁ hr => ?_) (fun w₁ g' w' es hr hst => ?_)
  · have := h w₁ hr
    cases hst : stepG P true g w₁ with
    | go g' w' es => rw [hst, goes_go] at this; exact ⟨g', w', es, rfl, this.1⟩
    | _ => rw [hst] at this; exact this.elim
  · have := h w₁ hr
    rw [hst, goes_go] at this
    exact this.2
theorem AtLeave.mono {f : FuncId} {R R' : Value → World → Prop} {base : List Frame} {g : Goroutine} (h : AtLeave P f R base g w) (hR : ∀ v, R v w → R' v w) : AtLeave P f R' base g w := by
  obtain ⟨fr, v, e, hl, hf, hv⟩ := h
  exact ⟨fr, v, e, hl, hf, hR v hv⟩
theorem GoesW.mono {Stop' : Goroutine → World → Prop} {g : Goroutine} (h : GoesW P true AtRel D0 Stop g w) (hS : ∀ g w, Stop g w → Stop' g w) : GoesW P true AtRel D0 Stop' g w := by
  induction h with
  | stop h => exact .stop fun w₁ h₁ => hS _ _ (h w₁ h₁)
  | step hs hgo _ ih => exact .step hs hgo ih
theorem at_self (w : World) : AtRel w w := ⟨w.drawn, rfl⟩
theorem frOk_enter (hC : ChkOk P C) {f : FuncId} (hS : C.S f = true) (hfs : C.fs f = []) (args : Array Value) : FrOk C (Frame.enter P f args .normal) := by
  obtain ⟨fn, body, hfn, _, hb, ht⟩ := hC.body f hS
  rw [enter_at args hfn hb]
  refine ⟨.inl hS, rfl, rfl, rfl, fun x hx => ?_, fun j hj => ?_⟩
  · obtain rfl : x = .code body := by simpa [Frame.at] using hx
    exact ht
  · have : j ∈ C.fs f := hj
    rw [hfs] at this
    cases this
/-- THE RETURN. -/
theorem gw_leave {f : FuncId} {R : Value → World → Prop} {g : Goroutine} {c : Frame} (h : AtLeave P f R (c :: cs) g w) (hn : ∀ v, R v w → GoesW P true AtRel D0 Stop (G (c.finish v) cs) w) : GoesW P true AtRel D0 Stop g w := by
  obtain ⟨fr, v, rfl, ⟨h1, h2, h3, fn, hfn, hr⟩, _, hR⟩ := h
  refine gw_go rfl (fun d => ?_) (hn v hR)
  obtain ⟨_, _, h4⟩ := runT_on P (results fn fr.tmps) (still_results fn fr.tmps) w #[]
  have e : ((results fn fr.tmps).runT P w #[]).1 = .ok v w := by rw [← hr]; exact Sem.runT_fst ..
  have h5 := h4 w.tape d (by rw [e]; intro i hi; simp [Result.world] at hi)
  rw [e] at h5
  refine ⟨seen P fr.fn ((results fn fr.tmps).runT P w #[]).2 ++ #[], ?_, (ev_seen (runT_ev P _ (still_results fn fr.tmps) w #[] ev_nil)).app ev_nil⟩
  rw [stepG_unwind (by rw [h1]; simp)]
  unfold unwind
  simp only [h2, h1, hfn]
  have e2 : (results fn fr.tmps).runT P (w.at d) #[] = (.ok v (w.at d), ((results fn fr.tmps).runT P w #[]).2) := by
    have : (w.at d) = w.on w.tape d := rfl
    rw [this, h5]
    simp [Result.on, Result.world]
  rw [e2]
  simp only [doReturn, h3]
  rfl
/-- A CALL BY ITS LONE CONTRACT. -/
theorem gw_call (hC : ChkOk P C) {ops : Array Oper} {i : Nat} {rest : List Nat} {o : Oper} {f : FuncId} {args : Array Operand} {ats : Array TypeId}
    (ho : ops[i]? = some o) (hw : Region.wanted o (yielded ops a.tmps) = true) (hk : b.kind ≠ .early) (hop : o.op = .call { callee := .value (.func f), args, argTypes := ats }) (hS : C.S f = true) (hfs : C.fs f = [])
    {R : Value → World → Prop} (hB : Blind R) (hcall : ∀ σ, Calls P f (args.map a.eval) (w.on σ 0) fun e w' => ∃ v, e = .returned v ∧ R v w')
    (hn : ∀ v w', R v w' → w'.tape = w.tape → GoesW P true AtRel D0 Stop (G (b.at (a.put o.dst v) (.inRegion ops rest :: k)) cs) w') : GoesW P true AtRel D0 Stop (G (b.at a (.inRegion ops (i :: rest) :: k)) cs) w := by
  obtain ⟨fn, body, hfn, hname, hb, ht⟩ := hC.body f hS
  have hnm : (fn.name == "runtime.NumGoroutine") = false := by simpa using hname
  refine gw_go rfl (g' := G (Frame.enter P f (args.map a.eval) .normal) (b.at a (.inRegion ops (i :: rest) :: k) :: cs)) (fun d => ?_) ?_
  · have hb' : fn.body.isNone = false := by rw [hb]; rfl
    refine ⟨_, stepG_enter ho hw hk (run_call_body hop hfn hnm hb'), ?_⟩
    have : listed P b.fn a o (w.at d) = #[] := by unfold listed; rw [events_call_body hop hfn hnm hb']; exact seen_none P _
    rw [this]
    exact ev_nil
  · have hl := lift hC hB (fr₀ := Frame.enter P f (args.map a.eval) .normal) (ups₀ := []) (w₀ := w) (b.at a (.inRegion ops (i :: rest) :: k) :: cs) ⟨frOk_enter hC hS hfs _, fun c hc => by cases hc⟩ (fun σ => by
      obtain ⟨e, w', fr, hR, hc, hf, hl⟩ := hcall σ [trap]
      obtain ⟨v, rfl, hR⟩ := hR
      obtain ⟨n, hn⟩ : Steps P _ _ := hc
      exact ⟨n, fr, w', v, hn, hl, hf, hR⟩)
    refine hl.andThen fun g w₂ hS₂ => ?_
    refine gw_leave (hS₂ w₂ (at_self w₂)) fun v hR => ?_
    have := hn v w₂ hR.1 hR.2
    rw [Frame.finish_at, ho]
    exact this
end
theorem ev_append {P : Program} {fn : FuncId} {o : Oper} {a : Act} {w : World} (s x : Operand) (t : TypeId) (ho : o.op = .call { callee := .builtin .append, args := #[s, x], argTypes := #[t, t] }) : Ev (listed P fn a o w) := by
  refine ev_seen ?_
  rw [events_append_op s x t ho rfl rfl]
  exact runT_ev P _ (still_append _ _ _) w #[] ev_nil
/-! ### goroutine 0's course, over walks and phases -/
/-- From a at w, with any leavers beside it, the machine comes to a frame in which goroutine 0 stands at its stop. -/
def Course (P : Program) (Stop : Goroutine → World → Prop) (a : Goroutine) (w : World) : Prop :=
  ∀ (w₀ : World) (gs : Array Goroutine) (sl : Option (Nat × Nat)) (t : Trace) (q : Nat → Nat), AtRel w w₀ → gs[0]? = some a → Frm0 P t gs q →
    ∃ (N : Nat) (gs' : Array Goroutine) (a' : Goroutine) (w' : World) (sl' : Option (Nat × Nat)) (t' : Trace) (q' : Nat → Nat),
      runNT P N (crowd gs w₀ sl) t = (.next (crowd gs' w' sl'), t') ∧ gs'[0]? = some a' ∧ Stop a' w' ∧ Frm0 P t' gs' q'
section
variable {P : Program} {S S' : Goroutine → World → Prop} {a : Goroutine} {w : World}
theorem Course.goes (h : GoesW P true AtRel D0 S a w) : Course P S a w := by
  intro w₀ gs sl t q hr h0 F
  obtain ⟨N, gs', a', w', sl', t', q', hrun, _, h0', hS, F'⟩ := walkW h w₀ gs sl t q hr h0 F
  exact ⟨N, gs', a', w', sl', t', q', hrun, h0', hS, F'⟩
theorem Course.pipe (h : AtGoP P S a w) : Course P S a w := by
  intro w₀ gs sl t q hr h0 F
  obtain ⟨d, rfl⟩ := hr
  obtain ⟨N, gs', a', w', sl', t', q', hrun, _, h0', hS, F'⟩ := pipe_phase (w := w.at d) (sl := sl) h0 F ⟨h.1, fun d' => h.2 d'⟩
  exact ⟨N, gs', a', w', sl', t', q', hrun, h0', hS, F'⟩
theorem Course.andThen (h : Course P S a w) (k : ∀ g w, S g w → Course P S' g w) : Course P S' a w := by
  intro w₀ gs sl t q hr h0 F
  obtain ⟨N, gs₁, a₁, w₁, sl₁, t₁, q₁, hrun, h0₁, hS, F₁⟩ := h w₀ gs sl t q hr h0 F
  obtain ⟨M, gs₂, a₂, w₂, sl₂, t₂, q₂, hrun₂, h0₂, hS₂, F₂⟩ := k a₁ w₁ hS w₁ gs₁ sl₁ t₁ q₁ (at_self w₁) h0₁ F₁
  exact ⟨N + M, gs₂, a₂, w₂, sl₂, t₂, q₂, by rw [runNT_add, hrun]; exact hrun₂, h0₂, hS₂, F₂⟩
theorem Course.goesThen (h : GoesW P true AtRel D0 S a w) (k : ∀ g w, S g w → Course P S' g w) : Course P S' a w := (Course.goes h).andThen k
theorem Course.leave {f : FuncId} {R : Value → World → Prop} {c : Frame} {cs : List Frame} (h : AtLeave P f R (c :: cs) a w) (hn : ∀ v, R v w → Course P S (G (c.finish v) cs) w) : Course P S a w := by
  refine (Course.goes (S := fun g w' => ∃ v, g = G (c.finish v) cs ∧ R v w ∧ AtRel w w') (gw_leave h fun v hR => .stop fun w₁ h₁ => ⟨v, rfl, hR, h₁⟩)).andThen ?_
  rintro _ w' ⟨v, rfl, hR, ⟨d, rfl⟩⟩
  intro w₀ gs sl t q hr h0 F
  exact hn v hR w₀ gs sl t q (atRel_trans _ _ _ ⟨d, rfl⟩ hr) h0 F
theorem Course.of (h : GoesW P true AtRel D0 (Course P S) a w) : Course P S a w := (Course.goes h).andThen fun _ _ h => h
theorem Course.stop (h : S a w) (hS : ∀ d, S a (w.at d)) : Course P S a w := Course.goes (.stop fun w₁ ⟨d, hd⟩ => hd ▸ hS d)
/-- A CALL BY ITS COURSE. -/
theorem Course.call {b : Frame} {x : Act} {k : List Item} {cs : List Frame} {ops : Array Oper} {i : Nat} {rest : List Nat} {o : Oper} {f : FuncId} {fn : Func} {body : Code} {args : Array Operand} {ats : Array TypeId}
    (ho : ops[i]? = some o) (hw : Region.wanted o (yielded ops x.tmps) = true) (hk : b.kind ≠ .early) (hop : o.op = .call { callee := .value (.func f), args, argTypes := ats })
    (hfn : P.funcs[f]? = some fn) (hnm : (fn.name == "runtime.NumGoroutine") = false) (hb : fn.body = some body) {R : Value → World → Prop} {vs : Array Value} (hvs : args.map x.eval = vs)
    (hcall : Course P (AtLeave P f R (b.at x (.inRegion ops (i :: rest) :: k) :: cs)) (G (Frame.enter P f vs .normal) (b.at x (.inRegion ops (i :: rest) :: k) :: cs)) w)
    (hn : ∀ v w', R v w' → Course P S (G (b.at (x.put o.dst v) (.inRegion ops rest :: k)) cs) w') : Course P S (G (b.at x (.inRegion ops (i :: rest) :: k)) cs) w := by
  subst hvs
  refine Course.of (gw_go rfl (g' := G (Frame.enter P f (args.map x.eval) .normal) (b.at x (.inRegion ops (i :: rest) :: k) :: cs)) (fun d => ?_) (.stop fun w₁ h₁ => ?_))
  · have hb' : fn.body.isNone = false := by rw [hb]; rfl
    refine ⟨_, stepG_enter ho hw hk (run_call_body hop hfn hnm hb'), ?_⟩
    have : listed P b.fn x o (w.at d) = #[] := by unfold listed; rw [events_call_body hop hfn hnm hb']; exact seen_none P _
    rw [this]
    exact ev_nil
  · obtain ⟨d, rfl⟩ := h₁
    have hc : Course P (AtLeave P f R (b.at x (.inRegion ops (i :: rest) :: k) :: cs)) (G (Frame.enter P f (args.map x.eval) .normal) (b.at x (.inRegion ops (i :: rest) :: k) :: cs)) (w.at d) :=
      fun w₀ gs sl t q hr h0 F => hcall w₀ gs sl t q (atRel_trans _ _ _ ⟨d, rfl⟩ hr) h0 F
    refine hc.andThen fun g w₂ hL => ?_
    refine Course.leave hL fun v hR => ?_
    have := hn v w₂ hR
    rw [Frame.finish_at, ho]
    exact this
/-- THE REST OF A FUNCTION, by a lone walk from its midst. -/
theorem gw_rest {C : Chk} (hC : ChkOk P C) {f : FuncId} {fn : Func} (hf : P.funcs[f]? = some fn) (hL : C.L f = true) (hfs : C.fs f = []) {c : Code} (hT : tameCode C f c = true) {T : Array Value} {R : Value → World → Prop} (hB : Blind R)
    (hwp : ∀ σ, c.wp P (bodyPost P fn fun e w' => ∃ v, e = .returned v ∧ R v w') ⟨T, []⟩ (w.on σ 0)) (cs : List Frame) :
    GoesW P true AtRel D0 (AtLeave P f (fun v w' => R v w' ∧ w'.tape = w.tape) cs) (G ((base f).at ⟨T, []⟩ [.code c]) cs) w := by
  refine lift hC hB (fr₀ := (base f).at ⟨T, []⟩ [.code c]) (ups₀ := []) (w₀ := w) cs ⟨⟨.inr hL, rfl, rfl, rfl, fun x hx => ?_, fun j hj => ?_⟩, fun c hc => by cases hc⟩ (fun σ => ?_)
  · obtain rfl : x = .code c := by simpa [Frame.at] using hx
    exact hT
  · have : j ∈ C.fs f := hj
    rw [hfs] at this
    cases this
  · obtain ⟨e, a', w', hq, harr⟩ := hwp σ (base f) [] [trap]
    cases e with
    | normal =>
      obtain ⟨hd, v, hr, v', hv, hR⟩ := hq
      cases hv
      obtain ⟨n, hn⟩ := Steps.trans harr (.one step_end)
      exact ⟨n, _, w', v, hn, ⟨rfl, hd, rfl, fn, hf, hr⟩, rfl, hR⟩
    | ret =>
      obtain ⟨hd, v, hr, v', hv, hR⟩ := hq
      cases hv
      obtain ⟨todo, n, hn⟩ := harr
      exact ⟨n, _, w', v, hn, ⟨rfl, hd, rfl, fn, hf, hr⟩, rfl, hR⟩
    | panic chain => obtain ⟨_, v', hv, _⟩ := hq; cases hv
    | exit id => exact hq.elim
    | goto l => exact hq.elim
    | outgrown => obtain ⟨v', hv, _⟩ := hq; cases hv
/-- THE END. -/
theorem Course.ends {R : Value → World → Prop} (hB : ∀ v w d, R v w → R v (w.at d)) {f : FuncId} (h : Course P (AtLeave P f R []) a w) (hi : P.inits.idxOf? f = none) :
    ∃ N last o w' t', runNT P (N + 1) (solo a w) #[] = (.ended o w', t') ∧ runN P N (solo a w) = .next last ∧ step P last = .ended o w' ∧ Good P R last o w' t' := by
  obtain ⟨k, gs₁, a₁, w₁, sl₁, t₁, q₁, hk, h0₁, hS, F₁⟩ := h w #[a] none #[] (fun _ => 0) (at_self w) rfl (Frm0.begin P a)
  have hk1 : runNT P k (solo a w) #[] = (.next (crowd gs₁ w₁ sl₁), t₁) := hk
  obtain ⟨N, last, o, w', t', h1, h2, h3, h4⟩ := endsW hB sl₁ h0₁ F₁ hS hi
  refine ⟨k + N, last, o, w', t', ?_, ?_, h3, h4⟩
  · rw [Nat.add_assoc, runNT_add, hk1]; exact h1
  · rw [runN_add, ← runNT_fst P k _ #[], hk1]; exact h2
end
end Go.Proofs.Ytaeaacdjiijooaa.Lift
