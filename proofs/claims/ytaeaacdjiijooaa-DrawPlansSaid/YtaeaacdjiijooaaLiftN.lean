import Derived.Test.YtaeaacdjiijooaaLiftStill
import Derived.Conc.Listed
namespace Go.Proofs.Ytaeaacdjiijooaa.Lift
open Go Go.Conc
set_option linter.unusedVariables false
/-! ### what a run hands on -/
/-- Whatever the operation hands on has the property. -/
def Yields {α : Type} (Q : α → Prop) : Sem α → Prop
  | .pure a => Q a
  | .halt _ => True
  | .load _ _ k => ∀ v, Yields Q (k v)
  | .store _ _ _ k => Yields Q k
  | .new _ k => ∀ r, Yields Q (k r)
  | .shape _ k => ∀ r, Yields Q (k r)
  | .freeze _ _ k => Yields Q k
  | .frozen _ k => ∀ b, Yields Q (k b)
  | .getObj _ k => ∀ o, Yields Q (k o)
  | .setObj _ _ k => Yields Q k
  | .choose _ k => ∀ n, Yields Q (k n)
  | .sys _ k => ∀ r, Yields Q (k r)
  | .program k => ∀ p, Yields Q (k p)
  | .mark _ k => Yields Q k
theorem yields_bind {α β : Type} {Q : β → Prop} {s : Sem α} {f : α → Sem β} (hf : ∀ a, Yields Q (f a)) : Yields Q (s.bind f) := by
  induction s with
  | pure a => exact hf a
  | halt h => trivial
  | load m a k ih => exact fun v => ih v
  | store m a v k ih => exact ih
  | new o k ih => exact fun v => ih v
  | shape o k ih => exact fun v => ih v
  | freeze a n k ih => exact ih
  | frozen a k ih => exact fun v => ih v
  | getObj a k ih => exact fun v => ih v
  | setObj r o k ih => exact ih
  | choose q k ih => exact fun v => ih v
  | sys c k ih => exact fun v => ih v
  | program k ih => exact fun v => ih v
  | mark m k ih => exact ih
theorem yields_bind' {α β : Type} {Q : β → Prop} {s : Sem α} {f : α → Sem β} (hf : ∀ a, Yields Q (f a)) : Yields Q (s >>= f) := yields_bind hf
theorem yields_halt {α : Type} {Q : α → Prop} (h : Halt) : Yields Q (.halt h) := trivial
/-- A still run hands on what the operation yields, or stops with a panic or the run's end. -/
theorem yields_run {α : Type} {Q : α → Prop} (P : Program) (s : Sem α) (hs : Still s) (hy : Yields Q s) : ∀ (w : World) (es : Array Event) (a : α) (w' : World), (s.runT P w es).1 = .ok a w' → Q a := by
  induction s with
  | pure a => intro w es b w' hh; injection hh with e; exact e ▸ hy
  | halt a => intro w es b w' hh; cases hh
  | sys c k ih => exact hs.elim
  | program k ih => intro w es b w' hh; exact ih P (hs _) (hy _) w es b w' hh
  | choose q k ih =>
    intro w es b w' hh
    simp only [Sem.runT] at hh
    split at hh
    · exact ih _ (hs _) (hy _) _ _ b w' hh
    · exact ih _ (hs _) (hy _) _ _ b w' hh
  | mark m k ih => intro w es b w' hh; exact ih hs.2 hy w _ b w' hh
  | load m a k ih =>
    intro w es b w' hh
    simp only [Sem.runT] at hh
    split at hh
    · exact ih _ (hs _) (hy _) w _ b w' hh
    · split at hh
      · exact ih _ (hs _) (hy _) w _ b w' hh
      · cases hh
  | store m a v k ih =>
    intro w es b w' hh
    cases v
    all_goals simp only [Sem.runT] at hh
    all_goals first
      | (cases hh; done)
      | (split at hh
         · split at hh
           · cases hh
           · exact ih hs hy _ _ b w' hh
         · split at hh
           · exact ih hs hy _ _ b w' hh
           · cases hh)
  | new o k ih => intro w es b w' hh; exact ih _ (hs _) (hy _) _ _ b w' hh
  | shape r k ih => intro w es b w' hh; exact ih _ (hs _) (hy _) _ _ b w' hh
  | freeze a n k ih => intro w es b w' hh; exact ih hs hy _ _ b w' hh
  | frozen a k ih => intro w es b w' hh; exact ih _ (hs _) (hy _) _ _ b w' hh
  | getObj r k ih =>
    intro w es b w' hh
    simp only [Sem.runT] at hh
    split at hh
    · cases hh
    · exact ih _ (hs _) (hy _) _ _ b w' hh
    · cases hh
  | setObj r o k ih =>
    intro w es b w' hh
    simp only [Sem.runT] at hh
    split at hh
    · cases hh
    · exact ih hs hy _ _ b w' hh
    · cases hh
theorem noCell_mild (w : World) (a : Addr) (s : String) : mild (w.noCell a s) = true := by
  unfold World.noCell
  repeat' split
  all_goals rfl
theorem farLoad_mild (p : Program) (w : World) (a : Addr) (b : Bool) (h : Halt) (hh : w.farLoad p a b = .error h) : mild h = true := by
  unfold World.farLoad at hh
  split at hh
  · split at hh
    · cases hh
    · injection hh with e; rw [← e]; rfl
  · injection hh with e; rw [← e]; exact noCell_mild ..
theorem farStore_mild (p : Program) (w : World) (a : Addr) (v : Value) (b : Bool) (h : Halt) (hh : w.farStore p a v b = .error h) : mild h = true := by
  unfold World.farStore at hh
  split at hh
  · split at hh
    · cases hh
    · injection hh with e; rw [← e]; rfl
  · injection hh with e; rw [← e]; exact noCell_mild ..
/-- A still run's halt is a panic, or the run's end. -/
theorem runT_mild {α : Type} (P : Program) (s : Sem α) (hs : Still s) : ∀ (w : World) (es : Array Event) (h : Halt) (w' : World), (s.runT P w es).1 = .halt h w' → mild h = true := by
  induction s with
  | pure a => intro w es h w' hh; cases hh
  | halt a => intro w es h w' hh; injection hh with e; exact e ▸ hs
  | sys c k ih => exact hs.elim
  | program k ih => intro w es h w' hh; exact ih P (hs _) w es h w' hh
  | choose q k ih =>
    intro w es h w' hh
    simp only [Sem.runT] at hh
    split at hh
    · exact ih _ (hs _) _ _ h w' hh
    · exact ih _ (hs _) _ _ h w' hh
  | mark m k ih => intro w es h w' hh; exact ih hs.2 w _ h w' hh
  | load m a k ih =>
    intro w es h w' hh
    simp only [Sem.runT] at hh
    split at hh
    · exact ih _ (hs _) w _ h w' hh
    · split at hh
      · exact ih _ (hs _) w _ h w' hh
      · rename_i hf
        injection hh with e; exact e ▸ farLoad_mild _ _ _ _ _ hf
  | store m a v k ih =>
    intro w es h w' hh
    cases v
    all_goals simp only [Sem.runT] at hh
    all_goals first
      | (injection hh with e; exact e ▸ rfl)
      | (split at hh
         · split at hh
           · injection hh with e; exact e ▸ rfl
           · exact ih hs _ _ h w' hh
         · split at hh
           · exact ih hs _ _ h w' hh
           · rename_i hf
             injection hh with e; exact e ▸ farStore_mild _ _ _ _ _ _ hf)
  | new o k ih => intro w es h w' hh; exact ih _ (hs _) _ _ h w' hh
  | shape r k ih => intro w es h w' hh; exact ih _ (hs _) _ _ h w' hh
  | freeze a n k ih => intro w es h w' hh; exact ih hs _ _ h w' hh
  | frozen a k ih => intro w es h w' hh; exact ih _ (hs _) _ _ h w' hh
  | getObj r k ih =>
    intro w es h w' hh
    simp only [Sem.runT] at hh
    split at hh
    · injection hh with e; exact e ▸ rfl
    · exact ih _ (hs _) _ _ h w' hh
    · injection hh with e; exact e ▸ rfl
  | setObj r o k ih =>
    intro w es h w' hh
    simp only [Sem.runT] at hh
    split at hh
    · injection hh with e; exact e ▸ rfl
    · exact ih hs _ _ h w' hh
    · injection hh with e; exact e ▸ rfl
/-- The accesses that a still run lists bear no word but neutral ones. -/
def Ev (es : Array Event) : Prop := ∀ e ∈ es, ∀ m, e.loc = .mark m → Neutral m
theorem Ev.push {es : Array Event} {x : Event} (h : Ev es) (hx : ∀ m, x.loc = .mark m → Neutral m) : Ev (es.push x) := fun e he => by
  rcases Array.mem_push.1 he with h' | rfl
  · exact h e h'
  · exact hx
theorem Ev.app {es fs : Array Event} (h : Ev es) (h' : Ev fs) : Ev (es ++ fs) := fun e he => (Array.mem_append.1 he).elim (h e) (h' e)
theorem ev_nil : Ev #[] := fun e he => by simp at he
theorem ev_map {β : Type} (l : List β) (f : β → Event) (h : ∀ b m, (f b).loc ≠ .mark m) : Ev (l.toArray.map f) := fun e he m hm => by
  obtain ⟨x, _, rfl⟩ := Array.mem_map.1 he
  exact absurd hm (h x m)
theorem runT_ev {α : Type} (P : Program) (s : Sem α) (hs : Still s) : ∀ (w : World) (es : Array Event), Ev es → Ev (s.runT P w es).2 := by
  induction s with
  | pure a => intro w es h; exact h
  | halt a => intro w es h; exact h
  | sys c k ih => exact hs.elim
  | program k ih => intro w es h; exact ih P (hs _) w es h
  | choose q k ih =>
    intro w es h
    simp only [Sem.runT]
    split
    · exact ih _ (hs _) _ _ h
    · exact ih _ (hs _) _ _ h
  | mark m k ih => intro w es h; exact ih hs.2 w _ (h.push fun m' hm' => by injection hm' with e; exact e ▸ hs.1)
  | load m a k ih =>
    intro w es h
    simp only [Sem.runT]
    split
    · exact ih _ (hs _) w _ (h.push fun m' hm' => by cases hm')
    · split
      · exact ih _ (hs _) w _ (h.app (ev_map _ _ fun b m hm => by cases hm))
      · exact h
  | store m a v k ih =>
    intro w es h
    cases v
    all_goals simp only [Sem.runT]
    all_goals first
      | exact h
      | (split
         · split
           · exact h
           · exact ih hs _ _ (h.push fun m' hm' => by cases hm')
         · split
           · exact ih hs _ _ (h.app (ev_map _ _ fun b m hm => by cases hm))
           · exact h)
  | new o k ih => intro w es h; exact ih _ (hs _) _ _ h
  | shape r k ih => intro w es h; exact ih _ (hs _) _ _ h
  | freeze a n k ih => intro w es h; exact ih hs _ _ h
  | frozen a k ih => intro w es h; exact ih _ (hs _) _ _ h
  | getObj r k ih =>
    intro w es h
    simp only [Sem.runT]
    split
    · exact h
    · exact ih _ (hs _) _ _ (h.push fun m' hm' => by cases hm')
    · exact h
  | setObj r o k ih =>
    intro w es h
    simp only [Sem.runT]
    split
    · exact h
    · exact ih hs _ _ (h.push fun m' hm' => by cases hm')
    · exact h
theorem ev_seen {P : Program} {fn : FuncId} {es : Array Event} (h : Ev es) : Ev (seen P fn es) := fun e he => h e (mem_seen he)
/-- A value, or nothing. -/
def PlainN : Next → Prop
  | .value _ | .skip => True
  | _ => False
theorem yields_calm (ρ : Operand → Value) (o : Oper) (h : calm o.op = true) : Yields PlainN (execOp ρ o) := by
  obtain ⟨reg, op, ty, pos⟩ := o
  cases op
  all_goals first
    | (exfalso; exact Bool.noConfusion h)
    | exact yields_bind' (fun _ => trivial)
    | exact trivial
    | skip
  case nilCheck x =>
    unfold execOp
    dsimp only
    have hp : Yields PlainN (runtimePanic .nilDeref : Sem Next) := by
      unfold runtimePanic
      exact yields_bind' (fun p => by
        dsimp only
        repeat' (first | exact yields_bind' (fun _ => trivial) | exact trivial | split))
    repeat' (first | exact hp | exact yields_bind' (fun _ => yields_bind' (fun _ => by split <;> trivial)) | exact trivial | split)
theorem yields_builtin (b : Builtin) (t : Array TypeId) (u : TypeId) (c : Array Bool) (a : Array Value) (h : calmBuiltin b = true) : Yields PlainN (builtin b t u c a) := by
  cases b
  all_goals first
    | (exfalso; exact Bool.noConfusion h)
    | exact yields_bind' (fun _ => trivial)
    | exact trivial
end Go.Proofs.Ytaeaacdjiijooaa.Lift
