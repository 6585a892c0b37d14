import Derived.Test.YtaeaacdjiijooaaLiftV
import Derived.Test.YtaeaacdjiijooaaLiftN
namespace Go.Proofs.Ytaeaacdjiijooaa.Lift
open Go Go.Conc
set_option linter.unusedVariables false
/-! ### the check of the code -/
/-- S: the functions that are walked; fs: of each function the slots that hold functions; V: the functions that may be values; L: functions of which a frame may be walked from its midst. -/
structure Chk where
  S : FuncId → Bool
  fs : FuncId → List Nat
  V : FuncId → Bool
  L : FuncId → Bool
def okArg (C : Chk) (f : FuncId) : Option Operand → Bool
  | none => true
  | some (.tmp j) => (C.fs f).contains j
  | some (.func h) => C.V h
  | some _ => false
def freeDst (C : Chk) (f : FuncId) : Option Tmp → Bool
  | none => true
  | some d => !(C.fs f).contains d
def tameOp (C : Chk) (f : FuncId) (o : Oper) : Bool :=
  match o.op with
  | .call c => freeDst C f o.dst && (match c.callee with
      | .builtin b => calmBuiltin b
      | .invoke .. => false
      | .value (.func g) => C.S g && (C.fs g).all fun k => okArg C f c.args.toList[k]?
      | .value (.tmp j) => (C.fs f).contains j
      | .value _ => false)
  | .makeFunc fn _ _ => freeDst C f o.dst || (match fn with | .func h => C.V h | _ => false)
  | op => calm op && freeDst C f o.dst
def tameCode (C : Chk) (f : FuncId) : Code → Bool
  | .region _ ops _ => ops.toList.all (tameOp C f)
  | .seq a b | .cond _ a b => tameCode C f a && tameCode C f b
  | .block _ c | .loop c | .scope c => tameCode C f c
  | .rangeFunc .. => false
  | _ => true
def tameItem (C : Chk) (f : FuncId) : Item → Bool
  | .code c => tameCode C f c
  | .inLoop c | .inScope c => tameCode C f c
  | .inRegion ops l => l.all fun i => (ops[i]?).all (tameOp C f)
  | .inBlock _ => true
  | _ => false
/-- A function among its values is one of V. -/
def goodV (C : Chk) (v : Value) : Prop := ∀ t a b, v = .func t a b → ∃ h, t = .func h ∧ C.V h = true
theorem goodV_undef (C : Chk) : goodV C undef := fun t a b h => by cases h
structure FrOk (C : Chk) (fr : Frame) : Prop where
  fnS : C.S fr.fn = true ∨ C.L fr.fn = true
  round : fr.roundOf = none
  defers : fr.defers = []
  kind : fr.kind = .normal
  todo : ∀ x ∈ fr.todo, tameItem C fr.fn x = true
  slots : ∀ k ∈ C.fs fr.fn, goodV C (fr.tmps.getD k undef)
structure ChkOk (P : Program) (C : Chk) : Prop where
  body : ∀ g, C.S g = true → ∃ fn body, P.funcs[g]? = some fn ∧ fn.name ≠ "runtime.NumGoroutine" ∧ fn.body = some body ∧ tameCode C g body = true
  val : ∀ g, C.V g = true → C.S g = true ∧ C.fs g = []
  steps : ∀ g, P.stepOf g = none
  frames : ∀ g, C.L g = true → ∃ fn body, P.funcs[g]? = some fn ∧ fn.body = some body
theorem ChkOk.entry {P : Program} {C : Chk} (h : ChkOk P C) {g : FuncId} (hg : C.S g = true ∨ C.L g = true) : ∃ fn body, P.funcs[g]? = some fn ∧ fn.body = some body := by
  rcases hg with hg | hg
  · obtain ⟨fn, body, h1, _, h2, _⟩ := h.body g hg
    exact ⟨fn, body, h1, h2⟩
  · exact h.frames g hg
section
variable {C : Chk} {f : FuncId}
theorem tame_exit {id : Nat} : ∀ {k k' : List Item}, exitTo id k = some k' → (∀ x ∈ k, tameItem C f x = true) → ∀ x ∈ k', tameItem C f x = true
  | [], k', h, _ => by cases h
  | y :: k, k', h, ht => by
    have rest : ∀ x ∈ k, tameItem C f x = true := fun x hx => ht x (List.mem_cons_of_mem _ hx)
    unfold exitTo at h
    split at h
    · rename_i id' k₂ he
      injection he with e1 e2
      subst e2
      split at h
      · injection h with e; subst e; exact rest
      · exact tame_exit h rest
    · rename_i x₂ k₂ _ he
      injection he with e1 e2
      subst e2
      exact tame_exit h rest
    · rename_i he; cases he
theorem tame_label {l : Nat} : ∀ {c r : Code}, findLabel c l = some r → tameCode C f c = true → tameCode C f r = true
  | .seq a b, r, h, ht => by
    simp only [tameCode, Bool.and_eq_true] at ht
    unfold findLabel at h
    cases ha : findLabel a l with
    | some x =>
      rw [ha] at h
      injection h with e
      subst e
      simp only [tameCode, Bool.and_eq_true]
      exact ⟨tame_label ha ht.1, ht.2⟩
    | none =>
      rw [ha] at h
      exact tame_label h ht.2
  | .label l', r, h, ht => by
    unfold findLabel at h
    split at h
    · injection h with e; subst e; rfl
    · cases h
  | .skip, r, h, ht => by cases h
  | .region .., r, h, ht => by cases h
  | .cond .., r, h, ht => by cases h
  | .block .., r, h, ht => by cases h
  | .loop .., r, h, ht => by cases h
  | .rangeFunc .., r, h, ht => by cases h
  | .exit .., r, h, ht => by cases h
  | .scope .., r, h, ht => by cases h
  | .goto .., r, h, ht => by cases h
  | .ret, r, h, ht => by cases h
  | .refuse .., r, h, ht => by cases h
theorem tame_goto {l : Nat} : ∀ {k k' : List Item}, gotoIn l k = some k' → (∀ x ∈ k, tameItem C f x = true) → ∀ x ∈ k', tameItem C f x = true
  | [], k', h, _ => by cases h
  | y :: k, k', h, ht => by
    have rest : ∀ x ∈ k, tameItem C f x = true := fun x hx => ht x (List.mem_cons_of_mem _ hx)
    have hy := ht y (List.mem_cons_self ..)
    unfold gotoIn at h
    split at h
    · rename_i body k₂ he
      injection he with e1 e2
      subst e1 e2
      split at h
      · rename_i r hr
        injection h with e
        subst e
        intro x hx
        rcases List.mem_cons.1 hx with rfl | hx
        · exact tame_label hr hy
        · exact ht x hx
      · exact tame_goto h rest
    · rename_i x₂ k₂ _ he
      injection he with e1 e2
      subst e2
      exact tame_goto h rest
    · rename_i he; cases he
theorem getD_set (a : Array Value) (d k : Nat) (v u : Value) : (a.setIfInBounds d v).getD k u = if d = k ∧ k < a.size then v else a.getD k u := by
  simp only [Array.getD_eq_getD_getElem?, Array.getElem?_setIfInBounds]
  by_cases h : d = k
  · subst h
    by_cases h2 : d < a.size
    · simp [h2]
    · simp [h2]
  · simp [h]
theorem FrOk.raise {fr : Frame} (h : FrOk C fr) (vs : List PanicEntry) : FrOk C (fr.raise vs) := by
  unfold Frame.raise
  split <;> exact ⟨h.fnS, h.round, h.defers, h.kind, h.todo, h.slots⟩
theorem FrOk.mode {fr : Frame} (h : FrOk C fr) (m : FrameMode) : FrOk C { fr with mode := m } := ⟨h.fnS, h.round, h.defers, h.kind, h.todo, h.slots⟩
theorem FrOk.to {fr : Frame} (h : FrOk C fr) {k : List Item} (hk : ∀ x ∈ k, tameItem C fr.fn x = true) : FrOk C { fr with todo := k } := ⟨h.fnS, h.round, h.defers, h.kind, hk, h.slots⟩
theorem FrOk.finish {fr : Frame} (h : FrOk C fr) {ops : Array Oper} {i : Nat} {l : List Nat} {k : List Item} (ht : fr.todo = .inRegion ops (i :: l) :: k) (v : Value)
    (hv : ∀ d, (ops[i]?).bind (·.dst) = some d → d ∈ C.fs fr.fn → goodV C v) : FrOk C (fr.finish v) := by
  have e : fr.finish v = { fr with tmps := match (ops[i]?).bind (·.dst) with
                | some d => fr.tmps.setIfInBounds d v
                | none => fr.tmps, todo := .inRegion ops l :: k } := by
    obtain ⟨fn, tmps, todo, defers, mode, kind, ro⟩ := fr
    simp only at ht
    subst ht
    rfl
  rw [e]
  have h0 := h.todo
  rw [ht] at h0
  refine ⟨h.fnS, h.round, h.defers, h.kind, fun x hx => ?_, fun j hj => ?_⟩
  · rcases List.mem_cons.1 hx with rfl | hx
    · have h1 := h0 (.inRegion ops (i :: l)) (List.mem_cons_self ..)
      simp only [tameItem, List.all_cons, Bool.and_eq_true] at h1 ⊢
      exact h1.2
    · exact h0 x (List.mem_cons_of_mem _ hx)
  · show goodV C (Array.getD (match (ops[i]?).bind (·.dst) with
                | some d => fr.tmps.setIfInBounds d v
                | none => fr.tmps) j undef)
    cases hd : (ops[i]?).bind (·.dst) with
    | none => exact h.slots j hj
    | some d =>
      dsimp only
      rw [getD_set]
      split
      · rename_i hdj
        exact hv d hd (hdj.1 ▸ hj)
      · exact h.slots j hj
theorem tame_any {ops : Array Oper} (h : ops.toList.all (tameOp C f) = true) (l : List Nat) : tameItem C f (.inRegion ops l) = true := by
  simp only [tameItem, List.all_eq_true]
  intro i _
  cases ho : ops[i]? with
  | none => rfl
  | some o =>
    rw [List.all_eq_true] at h
    exact h o (by rw [← Array.getElem?_toList] at ho; exact List.mem_of_getElem? ho)
theorem freeDst_not {o : Option Tmp} (h : freeDst C f o = true) : ∀ d, o = some d → d ∉ C.fs f := by
  rintro d rfl hm
  simp [freeDst] at h
  exact h hm
end
/-! ### a step of the top frame -/
def Win (w : World) (N : Nat) (σ : Nat → Question → Nat) (e : Nat) : Prop := ∀ i, i < N → σ (e + i) = w.tape (w.drawn + i)
/-- What a step of the top frame does: it hangs on a window of the tape, and on no caller. -/
def Out (P : Program) (C : Chk) (fr : Frame) (w : World) : Prop :=
  ∃ N, (∃ (fr' : Frame) (w' : World) (es : Array Event), Ev es ∧ FrOk C fr' ∧ ∀ σ e, Win w N σ e → ∀ cs, stepG P true (G fr cs) (w.on σ e) = .go (G fr' cs) (w'.on σ (e + N)) es) ∨
    (∃ (fr₂ : Frame) (w' : World) (es : Array Event), Ev es ∧ FrOk C fr₂ ∧ (∀ v, FrOk C (fr.finish v)) ∧ fr₂.mode = .run ∧ ∀ σ e, Win w N σ e → ∀ cs, stepG P true (G fr cs) (w.on σ e) = .go (G fr₂ (fr :: cs)) (w'.on σ (e + N)) es) ∨
    (∀ σ e, Win w N σ e → ∀ cs, ∃ o w' es, stepG P true (G fr cs) (w.on σ e) = .ended o w' es)
section
variable {P : Program} {C : Chk} {fr : Frame} {w : World}
theorem Out.stay {fr' : Frame} (hf : FrOk C fr') (h : ∀ σ e cs, stepG P true (G fr cs) (w.on σ e) = .go (G fr' cs) (w.on σ e) #[]) : Out P C fr w :=
  ⟨0, .inl ⟨fr', w, #[], ev_nil, hf, fun σ e _ cs => h σ e cs⟩⟩
theorem Out.ends (h : ∀ σ e cs, ∃ o w' es, stepG P true (G fr cs) (w.on σ e) = .ended o w' es) : Out P C fr w := ⟨0, .inr (.inr fun σ e _ cs => h σ e cs)⟩
theorem stepG_run (hm : fr.mode = .run) (cs : List Frame) (w : World) : stepG P true (G fr cs) w = stepG.exec P true true fr cs none w := by
  unfold stepG G
  simp only [hm]
theorem early_none (hs : ∀ g, P.stepOf g = none) (g : Nat) (w : World) :
    (∃ w' : World, ∀ σ e cs, early P fr cs none g (w.on σ e) = .go (G fr cs) (w'.on σ e) #[]) ∨ (∀ σ e cs, ∃ o w' es, early P fr cs none g (w.on σ e) = .ended o w' es) := by
  unfold early
  simp only [hs, on_heap]
  by_cases hf : (!P.follows .staticDataAhead) = true
  · simp only [hf, if_true]
    cases hh : w.heap[g]? with
    | none => exact .inr fun σ e cs => ⟨_, _, _, rfl⟩
    | some o =>
      cases o with
      | pending c elem => exact .inl ⟨{ w with heap := w.heap.setIfInBounds g (.cells c elem) }, fun σ e cs => rfl⟩
      | _ => exact .inr fun σ e cs => ⟨_, _, _, rfl⟩
  · simp only [hf, if_false, Bool.false_eq_true]
    exact .inr fun σ e cs => ⟨_, _, _, rfl⟩
theorem Out.sem (hC : ChkOk P C) (hf : FrOk C fr) {ops : Array Oper} {i : Nat} {l : List Nat} {k : List Item} (ht : fr.todo = .inRegion ops (i :: l) :: k) {s : Sem Next} (hs : Still s) (hy : Yields PlainN s)
    (happ : ∀ σ e cs, stepG P true (G fr cs) (w.on σ e) = stepG.apply P true fr cs none s (w.on σ e))
    (hv : ∀ v w', (s.runT P w #[]).1 = .ok (.value v) w' → FrOk C (fr.finish v)) : Out P C fr w := by
  obtain ⟨h1, h2, h3⟩ := runT_on P s hs w #[]
  have hev := runT_ev P s hs w #[] ev_nil
  have hyr := yields_run P s hs hy w #[]
  have hmr := runT_mild P s hs w #[]
  have hk : (fr.kind == CallKind.early) = false := by rw [hf.kind]; rfl
  refine ⟨(s.runT P w #[]).1.world.drawn - w.drawn, ?_⟩
  generalize hN : (s.runT P w #[]).1.world.drawn - w.drawn = N at h3 ⊢
  cases hr : s.runT P w #[] with
  | mk r es =>
    rw [hr] at h3 hev hyr hmr hv
    simp only at h3 hev hyr hmr hv
    cases r with
    | ok n w' =>
      have hn := hyr n w' rfl
      cases n with
      | value v =>
        refine .inl ⟨fr.finish v, w', seen P fr.fn es ++ #[], (ev_seen hev).app ev_nil, hv v w' rfl, fun σ e hw cs => ?_⟩
        rw [happ]
        unfold stepG.apply
        simp only [if_true]
        rw [h3 σ e hw]
        simp only [Result.on, hk, Bool.false_eq_true, if_false]
        rfl
      | skip =>
        refine .inl ⟨fr.finish undef, w', seen P fr.fn es ++ #[], (ev_seen hev).app ev_nil, hf.finish ht _ (fun _ _ _ => goodV_undef C), fun σ e hw cs => ?_⟩
        rw [happ]
        unfold stepG.apply
        simp only [if_true]
        rw [h3 σ e hw]
        simp only [Result.on, hk, Bool.false_eq_true, if_false]
        rfl
      | _ => exact hn.elim
    | halt h w' =>
      have hm := hmr h w' rfl
      cases h with
      | panic v =>
        refine .inl ⟨fr.raise [{ v, recovered := false }], w', seen P fr.fn es ++ #[], (ev_seen hev).app ev_nil, hf.raise _, fun σ e hw cs => ?_⟩
        rw [happ]
        unfold stepG.apply
        simp only [if_true]
        rw [h3 σ e hw]
        simp only [Result.on, hk, Bool.false_eq_true, if_false]
        rfl
      | stuck m =>
        refine .inr (.inr fun σ e hw cs => ?_)
        rw [happ]
        unfold stepG.apply
        simp only [if_true]
        rw [h3 σ e hw]
        exact ⟨_, _, _, rfl⟩
      | unsupported u =>
        cases u with
        | initOrder g =>
          rcases early_none (fr := fr) hC.steps g w' with ⟨w₂, he⟩ | he
          · refine .inl ⟨fr, w₂, seen P fr.fn #[] ++ #[], (ev_seen ev_nil).app ev_nil, hf, fun σ e hw cs => ?_⟩
            rw [happ]
            unfold stepG.apply
            simp only [if_true]
            rw [h3 σ e hw]
            simp only [Result.on, ite_self]
            rw [he]
            rfl
          · refine .inr (.inr fun σ e hw cs => ?_)
            rw [happ]
            unfold stepG.apply
            simp only [if_true]
            rw [h3 σ e hw]
            simp only [Result.on]
            obtain ⟨o, w₃, es₃, he'⟩ := he σ (e + N) cs
            rw [he']
            exact ⟨_, _, _, rfl⟩
        | _ =>
          refine .inr (.inr fun σ e hw cs => ?_)
          rw [happ]
          unfold stepG.apply
          simp only [if_true]
          rw [h3 σ e hw]
          exact ⟨_, _, _, rfl⟩
      | _ => exact absurd hm Bool.false_ne_true
/-- A call that enters a function of S. -/
theorem Out.enter (hC : ChkOk P C) (hf : FrOk C fr) {s : Sem Next} {g : FuncId} {args : Array Value} (hg : C.S g = true) (hr : ∀ w, s.runT P w #[] = (.ok (.enter g args) w, #[]))
    (happ : ∀ σ e cs, stepG P true (G fr cs) (w.on σ e) = stepG.apply P true fr cs none s (w.on σ e)) (hkind : ∀ d b r x k, fr.todo ≠ .call d b r x :: k)
    (hv : ∀ v, FrOk C (fr.finish v)) (ha : ∀ k ∈ C.fs g, goodV C (args.getD k undef)) : Out P C fr w := by
  have hk : (fr.kind == CallKind.early) = false := by rw [hf.kind]; rfl
  obtain ⟨fn, body, hfn, _, hb, ht⟩ := hC.body g hg
  refine ⟨0, .inr (.inl ⟨Frame.enter P g args .normal, w, seen P fr.fn #[] ++ #[], (ev_seen ev_nil).app ev_nil, ⟨.inl hg, rfl, rfl, rfl, fun x hx => ?_, fun j hj => ?_⟩, hv, rfl, fun σ e hw cs => ?_⟩)⟩
  · simp only [Frame.enter, hfn, hb, Option.bind_some, Option.getD_some, List.mem_singleton] at hx
    subst hx
    exact ht
  · show goodV C ((args ++ Array.replicate _ undef).getD j undef)
    have := ha j hj
    simp only [Array.getD_eq_getD_getElem?] at this ⊢
    rw [Array.getElem?_append]
    split
    · exact this
    · rw [Array.getElem?_replicate]
      split <;> exact goodV_undef C
  · rw [happ]
    unfold stepG.apply
    simp only [if_true]
    rw [hr]
    simp only [hk, Bool.false_eq_true, if_false]
    have e2 : ∀ (κ : CallKind), κ = CallKind.normal → GStep.after (seen P fr.fn #[]) (GStep.go { frame := Frame.enter P g args κ, callers := fr :: cs, status := GoStatus.running, dying := none } (w.on σ e)) =
        GStep.go (G (Frame.enter P g args CallKind.normal) (fr :: cs)) (w.on σ (e + 0)) (seen P fr.fn #[] ++ #[]) := fun κ h => by subst h; rfl
    refine e2 _ ?_
    split
    · rename_i h; exact absurd h (hkind _ _ _ _ _)
    · rfl
theorem callFunc_enter (hC : ChkOk P C) {g : FuncId} (hg : C.S g = true) (args : Array Value) (w : World) : (callFunc g args).runT P w #[] = (.ok (.enter g args) w, #[]) := by
  obtain ⟨fn, body, hfn, hn, hb, ht⟩ := hC.body g hg
  have e : (callFunc g args).runT P w #[] = ((match P.funcs[g]? with
    | none => stuck "call: no such function"
    | some fn =>
      if fn.name == "runtime.NumGoroutine" then pure .numGoroutine
      else if fn.body.isNone then do
        mark (.extern g)
        if let some e := Extern.findNext fn then return ← e args
        match Extern.find fn with
        | some e => pure (.value (← e args))
        | none =>
          if fn.name.endsWith ".init" && !fn.name.startsWith "(" && !fn.name.startsWith "gosem." then pure (.value (.tuple #[]))
          else unsupported (.extern fn.name)
      else pure (.enter g args) : Sem Next)).runT P w #[] := rfl
  rw [e, hfn]
  have hn' : (fn.name == "runtime.NumGoroutine") = false := by simpa using hn
  simp only [hn', hb, Option.isNone_some, Bool.false_eq_true, if_false]
  rfl
end
end Go.Proofs.Ytaeaacdjiijooaa.Lift
