import Derived.Test.YtaeaacdjiijooaaLiftO
namespace Go.Proofs.Ytaeaacdjiijooaa.Lift
open Go Go.Conc
set_option linter.unusedVariables false
section
variable {P : Program} {C : Chk} {fr : Frame} {w : World}
theorem yields_panic : Yields PlainN (runtimePanic .nilDeref : Sem Next) := by
  unfold runtimePanic
  exact yields_bind' (fun p => by
    dsimp only
    repeat' (first | exact yields_bind' (fun _ => trivial) | exact trivial | split))
theorem tame_get {f : FuncId} {ops : Array Oper} {i : Nat} {o : Oper} (h : ops.toList.all (tameOp C f) = true) (ho : ops[i]? = some o) : tameOp C f o = true := by
  rw [List.all_eq_true] at h
  exact h o (by rw [← Array.getElem?_toList] at ho; exact List.mem_of_getElem? ho)
theorem oper_out (hC : ChkOk P C) (hf : FrOk C fr) {ops : Array Oper} {i : Nat} {l : List Nat} {k : List Item} (ht : fr.todo = .inRegion ops (i :: l) :: k) {o : Oper} (ho : ops[i]? = some o)
    (happ : ∀ σ e cs, stepG P true (G fr cs) (w.on σ e) = stepG.apply P true fr cs none (execOp fr.eval o) (w.on σ e)) : Out P C fr w := by
  have htm : tameOp C fr.fn o = true := by
    have h1 := hf.todo (.inRegion ops (i :: l)) (by rw [ht]; exact List.mem_cons_self ..)
    simp only [tameItem, List.all_cons, Bool.and_eq_true, ho, Option.all_some] at h1
    exact h1.1
  have hdst : (ops[i]?).bind (·.dst) = o.dst := by rw [ho]; rfl
  have hfin : freeDst C fr.fn o.dst = true → ∀ v, FrOk C (fr.finish v) := fun h v => hf.finish ht v fun d hd hm => absurd hm (freeDst_not h d (hdst ▸ hd))
  have hkind : ∀ d b r x k, fr.todo ≠ .call d b r x :: k := fun d b r x k h => by rw [ht] at h; cases h
  obtain ⟨dst, op, ty, pos, aft, grd⟩ := o
  unfold tameOp at htm
  dsimp only at htm hfin hdst
  split at htm
  · rename_i c
    simp only [Bool.and_eq_true] at htm
    obtain ⟨hfree, htm⟩ := htm
    have hfin := hfin hfree
    obtain ⟨callee, cargs, ctypes⟩ := c
    dsimp only at htm
    split at htm
    · rename_i b
      exact Out.sem hC hf ht (still_builtin b _ _ _ _ htm) (yields_builtin b _ _ _ _ htm) happ (fun v w' _ => hfin v)
    · cases htm
    · rename_i g
      simp only [Bool.and_eq_true, List.all_eq_true] at htm
      refine Out.enter hC hf (g := g) (args := (#[] ++ cargs.map fr.eval) ++ #[]) htm.1 (fun w => ?_) happ hkind hfin (fun k hk => ?_)
      · exact callFunc_enter hC htm.1 _ w
      · have ha := htm.2 k hk
        simp only [Array.empty_append, Array.append_empty, Array.getD_eq_getD_getElem?, Array.getElem?_map]
        rw [← Array.getElem?_toList]
        cases hx : cargs.toList[k]? with
        | none => exact goodV_undef C
        | some x =>
          rw [hx] at ha
          cases x with
          | tmp j =>
            have : j ∈ C.fs fr.fn := by simpa [okArg] using ha
            exact hf.slots j this
          | func h =>
            intro t a b e
            injection e with e1
            exact ⟨h, e1.symm, ha⟩
          | const v => cases ha
          | global g => cases ha
    · rename_i j
      have hj : j ∈ C.fs fr.fn := by simpa using htm
      have hg := hf.slots j hj
      have hex : execOp fr.eval ⟨dst, .call ⟨.value (.tmp j), cargs, ctypes⟩, ty, pos, aft, grd⟩ = (do let d ← Deferred.ofValue (fr.tmps.getD j undef) (cargs.map fr.eval); invoke d.target d.args) := rfl
      rw [hex] at happ
      generalize hval : fr.tmps.getD j undef = v at hg happ
      cases v with
      | func t a b =>
        obtain ⟨h, rfl, hV⟩ := hg t a b rfl
        obtain ⟨hS, hfs⟩ := hC.val h hV
        refine Out.enter hC hf (g := h) (args := (a ++ cargs.map fr.eval) ++ b) hS (fun w => ?_) happ hkind hfin (fun k hk => ?_)
        · exact callFunc_enter hC hS _ w
        · rw [hfs] at hk; cases hk
      | nilFunc => exact Out.sem hC hf ht (s := runtimePanic .nilDeref) (still_runtimePanic _) yields_panic happ (fun v w' _ => hfin v)
      | _ => exact Out.sem hC hf ht (s := stuck "call: function value expected") (still_stuck _) trivial happ (fun v w' _ => hfin v)
    · cases htm
  · rename_i fn first captured
    have hex : execOp fr.eval ⟨dst, .makeFunc fn first captured, ty, pos, aft, grd⟩ = (pure (.value (.func fn (first.map fr.eval) (captured.map fr.eval)))) := rfl
    rw [hex] at happ
    refine Out.sem hC hf ht (still_pure _) (show Yields PlainN (Sem.pure (Next.value (.func fn (first.map fr.eval) (captured.map fr.eval)))) from trivial) happ (fun v w' hr => ?_)
    have hv : v = .func fn (first.map fr.eval) (captured.map fr.eval) := by
      have e : (Result.ok (Next.value (.func fn (first.map fr.eval) (captured.map fr.eval))) w) = .ok (.value v) w' := hr
      injection e with e1
      injection e1 with e2
      exact e2.symm
    simp only [Bool.or_eq_true] at htm
    rcases htm with h | h
    · exact hfin h v
    · refine hf.finish ht v fun d _ _ => ?_
      rw [hv]
      intro t a b e
      injection e with e1
      subst e1
      cases fn with
      | func h' => exact ⟨h', rfl, h⟩
      | _ => cases h
  · rename_i op' hn1 hn2
    simp only [Bool.and_eq_true] at htm
    exact Out.sem hC hf ht (still_calm _ _ htm.1) (yields_calm _ _ htm.1) happ (fun v w' _ => hfin htm.2 v)
theorem exec_out (hC : ChkOk P C) (hf : FrOk C fr) (hm : fr.mode = .run) (w : World) : Out P C fr w := by
  have hro := hf.round
  have htame := hf.todo
  have leave_none : ∀ (k : List Item) (σ : Nat → Question → Nat) (e : Nat) (cs : List Frame), FrOk C { fr with mode := .returning } := fun _ _ _ _ => hf.mode _
  cases htd : fr.todo with
  | nil =>
    refine Out.stay (hf.mode .returning) fun σ e cs => ?_
    rw [stepG_run hm]
    unfold stepG.exec
    simp only [htd, hro]
    rfl
  | cons x k =>
    have hx : tameItem C fr.fn x = true := htame x (by rw [htd]; exact List.mem_cons_self ..)
    have hk : ∀ y ∈ k, tameItem C fr.fn y = true := fun y hy => htame y (by rw [htd]; exact List.mem_cons_of_mem _ hy)
    have h1 : ∀ y, tameItem C fr.fn y = true → ∀ z ∈ y :: k, tameItem C fr.fn z = true := fun y hy z hz => by
      rcases List.mem_cons.1 hz with rfl | hz
      · exact hy
      · exact hk z hz
    have h2 : ∀ y y', tameItem C fr.fn y = true → tameItem C fr.fn y' = true → ∀ z ∈ y :: y' :: k, tameItem C fr.fn z = true := fun y y' hy hy' z hz => by
      rcases List.mem_cons.1 hz with rfl | hz
      · exact hy
      · exact h1 y' hy' z hz
    cases x with
    | code c =>
      cases c with
      | skip =>
        refine Out.stay (hf.to hk) fun σ e cs => ?_
        rw [stepG_run hm]; unfold stepG.exec; simp only [htd]; rfl
      | label l =>
        refine Out.stay (hf.to hk) fun σ e cs => ?_
        rw [stepG_run hm]; unfold stepG.exec; simp only [htd]; rfl
      | seq a b =>
        simp only [tameItem, tameCode, Bool.and_eq_true] at hx
        refine Out.stay (hf.to (h2 (.code a) (.code b) hx.1 hx.2)) fun σ e cs => ?_
        rw [stepG_run hm]; unfold stepG.exec; simp only [htd]; rfl
      | cond c a b =>
        simp only [tameItem, tameCode, Bool.and_eq_true] at hx
        cases hc : fr.eval c with
        | bool t =>
          refine Out.stay (hf.to (h1 (.code (if t then a else b)) (by cases t <;> simp [tameItem, hx.1, hx.2]))) fun σ e cs => ?_
          rw [stepG_run hm]; unfold stepG.exec; simp only [htd, hc]; rfl
        | _ =>
          refine Out.ends fun σ e cs => ?_
          rw [stepG_run hm]; unfold stepG.exec; simp only [htd, hc]
          exact ⟨_, _, _, rfl⟩
      | block id c =>
        refine Out.stay (hf.to (h2 (.code c) (.inBlock id) hx rfl)) fun σ e cs => ?_
        rw [stepG_run hm]; unfold stepG.exec; simp only [htd]; rfl
      | loop c =>
        refine Out.stay (hf.to (h2 (.code c) (.inLoop c) hx hx)) fun σ e cs => ?_
        rw [stepG_run hm]; unfold stepG.exec; simp only [htd]; rfl
      | scope c =>
        refine Out.stay (hf.to (h2 (.code c) (.inScope c) hx hx)) fun σ e cs => ?_
        rw [stepG_run hm]; unfold stepG.exec; simp only [htd]; rfl
      | rangeFunc => cases hx
      | exit id =>
        cases he : exitTo id k with
        | some k' =>
          refine Out.stay (hf.to (tame_exit he hk)) fun σ e cs => ?_
          rw [stepG_run hm]; unfold stepG.exec; simp only [htd, he]; rfl
        | none =>
          refine Out.ends fun σ e cs => ?_
          rw [stepG_run hm]; unfold stepG.exec; simp only [htd, he, Option.elim, hro]
          exact ⟨_, _, _, rfl⟩
      | goto id =>
        cases he : gotoIn id k with
        | some k' =>
          refine Out.stay (hf.to (tame_goto he hk)) fun σ e cs => ?_
          rw [stepG_run hm]; unfold stepG.exec; simp only [htd, he]; rfl
        | none =>
          refine Out.ends fun σ e cs => ?_
          rw [stepG_run hm]; unfold stepG.exec; simp only [htd, he, Option.elim, hro]
          exact ⟨_, _, _, rfl⟩
      | ret =>
        refine Out.stay (hf.mode .returning) fun σ e cs => ?_
        rw [stepG_run hm]; unfold stepG.exec; simp only [htd, hro]; rfl
      | refuse why =>
        refine Out.ends fun σ e cs => ?_
        rw [stepG_run hm]; unfold stepG.exec; simp only [htd]
        exact ⟨_, _, _, rfl⟩
      | region id ops draw =>
        cases draw with
        | false =>
          refine Out.stay (hf.to (h1 (.inRegion ops (List.range ops.size)) (tame_any hx _))) fun σ e cs => ?_
          rw [stepG_run hm]; unfold stepG.exec; simp only [htd]; rfl
        | true =>
          refine ⟨1, .inl ⟨{ fr with todo := .inRegion ops (Region.schedule (P.follows .mixedOrders) ops (w.tape w.drawn (.order fr.fn id))) :: k }, { w with drawn := w.drawn + 1 }, #[], ev_nil, hf.to (h1 _ (tame_any hx _)), fun σ e hw cs => ?_⟩⟩
          have h0 := hw 0 (Nat.lt_succ_self 0)
          simp only [Nat.add_zero] at h0
          rw [stepG_run hm]; unfold stepG.exec; simp only [htd]
          have h1 : (choose (.order fr.fn id)).run P (w.on σ e) = .ok (w.tape w.drawn (.order fr.fn id)) ({ w with drawn := w.drawn + 1 }.on σ (e + 1)) := by
            show Result.ok _ _ = _
            simp only [on_tape, on_drawn, h0]
            rfl
          simp only [Bool.not_true, Bool.false_eq_true, if_false]
          rw [h1]
          rfl
    | inBlock id =>
      refine Out.stay (hf.to hk) fun σ e cs => ?_
      rw [stepG_run hm]; unfold stepG.exec; simp only [htd]; rfl
    | inScope c =>
      refine Out.stay (hf.to hk) fun σ e cs => ?_
      rw [stepG_run hm]; unfold stepG.exec; simp only [htd]; rfl
    | inLoop c =>
      refine Out.stay (hf.to (h2 (.code c) (.inLoop c) hx hx)) fun σ e cs => ?_
      rw [stepG_run hm]; unfold stepG.exec; simp only [htd]; rfl
    | inRegion ops l =>
      cases l with
      | nil =>
        refine Out.stay (hf.to hk) fun σ e cs => ?_
        rw [stepG_run hm]; unfold stepG.exec; simp only [htd]; rfl
      | cons i l =>
        cases hw : ((ops[i]?).map (Region.wanted · (yielded ops fr.tmps))).getD false with
        | false =>
          refine Out.stay (hf.finish htd undef fun _ _ _ => goodV_undef C) fun σ e cs => ?_
          rw [stepG_run hm]; unfold stepG.exec; simp only [htd, hw]; rfl
        | true =>
          cases ho : ops[i]? with
          | none => rw [ho] at hw; cases hw
          | some o =>
            refine oper_out hC hf htd ho fun σ e cs => ?_
            rw [stepG_run hm]; unfold stepG.exec; simp only [htd, hw]
            have e1 : fr.oper? = some o := by unfold Frame.oper?; simp only [htd, ho]
            simp only [if_true]
            unfold stepG.oper
            simp only [e1, hro]
    | _ => cases hx
end
end Go.Proofs.Ytaeaacdjiijooaa.Lift
