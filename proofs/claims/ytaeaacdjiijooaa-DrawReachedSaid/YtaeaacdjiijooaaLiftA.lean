/- A lone run on every tape is a walk beside leavers; goroutine 0's course over walks and phases. -/
import Derived.Conc.Own
import Derived.Conc.Beside
import Derived.Conc.Fork
import Derived.Conc.Neutral
import Derived.Conc.Listed
import Derived.Conc.TokenTrace
import Derived.Conc.CrowdSel
import Derived.Conc.PipeGen
import Derived.Conc.AppendWalk
namespace Go.Proofs.Ytaeaacdjiijooaa.Lift
open Go Go.Conc Go.ConcN
/-- The world with another tape, read from another place. -/
def _root_.Go.World.on (w : World) (τ : Nat → Question → Nat) (d : Nat) : World := { w with tape := τ, drawn := d }
@[simp] theorem on_heap (w : World) (τ d) : (w.on τ d).heap = w.heap := rfl
@[simp] theorem on_os (w : World) (τ d) : (w.on τ d).os = w.os := rfl
@[simp] theorem on_tape (w : World) (τ d) : (w.on τ d).tape = τ := rfl
@[simp] theorem on_drawn (w : World) (τ d) : (w.on τ d).drawn = d := rfl
@[simp] theorem on_on (w : World) (τ d τ' d') : (w.on τ d).on τ' d' = w.on τ' d' := rfl
theorem on_self (w : World) : w.on w.tape w.drawn = w := rfl
@[simp] theorem on_cell (w : World) (τ d a) : (w.on τ d).cell? a = w.cell? a := rfl
@[simp] theorem on_frozen (w : World) (τ d a) : (w.on τ d).frozen? a = w.frozen? a := rfl
@[simp] theorem on_shape (w : World) (τ d r) : (w.on τ d).shape? r = w.shape? r := rfl
@[simp] theorem on_setCell (w : World) (τ d a v) : (w.on τ d).setCell a v = (w.setCell a v).on τ d := rfl
theorem on_freeze (w : World) (τ d a n) : (w.on τ d).freeze a n = (w.freeze a n).on τ d := by unfold World.freeze; split <;> rfl
theorem on_farLoad (p : Program) (w : World) (τ d a b) : (w.on τ d).farLoad p a b = w.farLoad p a b := by
  unfold World.farLoad
  rfl
theorem on_viewStore (p : Program) (w : World) (τ d at_ u k v b) : (w.on τ d).viewStore p at_ u k v b = (w.viewStore p at_ u k v b).map fun x => (x.1.on τ d, x.2) := by
  unfold World.viewStore
  have e : (w.on τ d).seen p at_ u k b = w.seen p at_ u k b := rfl
  rw [e]
  simp only [on_heap]
  split
  · rfl
  · simp only [bind, Except.bind, pure, Except.pure]
    cases w.seen p at_ u k b with
    | error e => rfl
    | ok r =>
      simp only
      cases v.bytes? with
      | none => rfl
      | some bytes =>
        simp only
        split
        · rfl
        · split <;> rfl
/-- A halt that is a panic, or the run's end. -/
def mild : Halt → Bool
  | .panic _ | .stuck _ | .unsupported _ => true
  | _ => false
/-- No call of the system's, no word of the library's but neutral ones, no halt that is a report. -/
def Still {α : Type} : Sem α → Prop
  | .pure _ => True
  | .halt h => mild h = true
  | .load _ _ k => ∀ v, Still (k v)
  | .store _ _ _ k => Still k
  | .new _ k => ∀ r, Still (k r)
  | .shape _ k => ∀ r, Still (k r)
  | .freeze _ _ k => Still k
  | .frozen _ k => ∀ b, Still (k b)
  | .getObj _ k => ∀ o, Still (k o)
  | .setObj _ _ k => Still k
  | .choose _ k => ∀ n, Still (k n)
  | .sys _ _ => False
  | .program k => ∀ p, Still (k p)
  | .mark m k => Conc.Neutral m ∧ Still k
theorem Still.bind {α β : Type} {s : Sem α} {f : α → Sem β} (hs : Still s) (hf : ∀ a, Still (f a)) : Still (s.bind f) := by
  induction s with
  | pure a => exact hf a
  | halt h => trivial
  | load m a k ih => exact fun v => ih v (hs v)
  | store m a v k ih => exact ih hs
  | new o k ih => exact fun v => ih v (hs v)
  | shape o k ih => exact fun v => ih v (hs v)
  | freeze a n k ih => exact ih hs
  | frozen a k ih => exact fun v => ih v (hs v)
  | getObj a k ih => exact fun v => ih v (hs v)
  | setObj r o k ih => exact ih hs
  | choose q k ih => exact fun v => ih v (hs v)
  | sys c k ih => exact hs.elim
  | program k ih => exact fun v => ih v (hs v)
  | mark m k ih => exact ⟨hs.1, ih hs.2⟩
/-- The world that a result bears. -/
def _root_.Go.Result.world {α : Type} : Result α → World
  | .ok _ w => w
  | .halt _ w => w
def _root_.Go.Result.on {α : Type} (r : Result α) (τ : Nat → Question → Nat) (d : Nat) : Result α :=
  match r with
  | .ok a w => .ok a (w.on τ d)
  | .halt h w => .halt h (w.on τ d)
/-- WHAT A RUN DOES HANGS ON THE ANSWERS THAT IT TAKES, AND ON NO OTHER. -/
theorem runT_on {α : Type} (P : Program) (s : Sem α) (hs : Still s) : ∀ (w : World) (es : Array Event), w.drawn ≤ (s.runT P w es).1.world.drawn ∧ (s.runT P w es).1.world.tape = w.tape ∧
    ∀ τ d, (∀ i, i < (s.runT P w es).1.world.drawn - w.drawn → τ (d + i) = w.tape (w.drawn + i)) → s.runT P (w.on τ d) es = ((s.runT P w es).1.on τ (d + ((s.runT P w es).1.world.drawn - w.drawn)), (s.runT P w es).2) := by
  induction s with
  | pure a => intro w es; exact ⟨Nat.le_refl _, rfl, fun τ d _ => by simp [Sem.runT, Result.world, Result.on]⟩
  | halt h => intro w es; exact ⟨Nat.le_refl _, rfl, fun τ d _ => by simp [Sem.runT, Result.world, Result.on]⟩
  | load m a k ih =>
    intro w es
    simp only [Sem.runT, on_cell, on_farLoad]
    cases w.cell? a with
    | some v => exact ih v (hs v) w _
    | none =>
      cases w.farLoad P a (m == .atomic) with
      | ok r => exact ih r.1 (hs _) w _
      | error h => exact ⟨Nat.le_refl _, rfl, fun τ d _ => by simp [Result.world, Result.on]⟩
  | store m a v k ih =>
    intro w es
    have ih := ih hs
    have key : ∀ (v : Value), (∀ (w : World) (es : Array Event), (Sem.store m a v k).runT P w es = match w.cell? a with
        | some _ => if w.frozen? a then (.halt (.unsupported (.unsafePointer "a write to bytes that a string shares")) w, es) else k.runT P (w.setCell a v) (es.push ⟨.cell a, true, m == .atomic⟩)
        | none => match w.farStore P a v (m == .atomic) with
          | .ok (w, touched) => k.runT P w (es ++ touched.toArray.map (⟨.cell ·, true, m == .atomic⟩))
          | .error h => (.halt h w, es)) → w.drawn ≤ ((Sem.store m a v k).runT P w es).1.world.drawn ∧ ((Sem.store m a v k).runT P w es).1.world.tape = w.tape ∧
        ∀ τ d, (∀ i, i < ((Sem.store m a v k).runT P w es).1.world.drawn - w.drawn → τ (d + i) = w.tape (w.drawn + i)) → (Sem.store m a v k).runT P (w.on τ d) es = (((Sem.store m a v k).runT P w es).1.on τ (d + (((Sem.store m a v k).runT P w es).1.world.drawn - w.drawn)), ((Sem.store m a v k).runT P w es).2) := by
      intro v e
      have e1 := e w es
      rw [e1]
      simp only [e, on_cell, on_frozen, on_setCell]
      cases hc : w.cell? a with
      | some u =>
        simp only
        by_cases hf : w.frozen? a = true
        · simp [hf, Result.world, Result.on]
        · have hf : w.frozen? a = false := by simpa using hf
          simp only [hf, Bool.false_eq_true, if_false]; exact ih (w.setCell a v) _
      | none =>
        simp only
        have hfar : ∀ τ d, (w.on τ d).farStore P a v (m == .atomic) = (w.farStore P a v (m == .atomic)).map fun x => (x.1.on τ d, x.2) := by
          intro τ d
          unfold World.farStore
          simp only [on_heap]
          cases w.heap[a.block]? with
          | none => rfl
          | some o =>
            cases o with
            | view at_ u =>
              simp only [on_viewStore]
              cases w.viewStore P at_ u a v (m == .atomic) <;> rfl
            | _ => rfl
        have hdr : ∀ r, w.farStore P a v (m == .atomic) = .ok r → r.1.drawn = w.drawn ∧ r.1.tape = w.tape := by
          intro r hr
          have h1 := hfar w.tape w.drawn
          rw [on_self, hr] at h1
          have h2 : r = (r.1.on w.tape w.drawn, r.2) := by injection h1
          have h3 : r.1 = r.1.on w.tape w.drawn := congrArg Prod.fst h2
          exact ⟨(congrArg World.drawn h3).trans rfl, (congrArg World.tape h3).trans rfl⟩
        simp only [hfar]
        cases hr : w.farStore P a v (m == .atomic) with
        | error h => exact ⟨Nat.le_refl _, rfl, fun τ d _ => by simp [Result.world, Result.on, Except.map]⟩
        | ok r =>
          obtain ⟨d1, d2⟩ := hdr r hr
          obtain ⟨w1, tl⟩ := r
          simp only [Except.map] at d1 d2 ⊢
          rw [← d1, ← d2]
          exact ih w1 _
    cases v with
    | agg c => exact ⟨Nat.le_refl _, rfl, fun τ d _ => by simp [Sem.runT, Result.world, Result.on]⟩
    | tuple c => exact ⟨Nat.le_refl _, rfl, fun τ d _ => by simp [Sem.runT, Result.world, Result.on]⟩
    | _ => exact key _ (fun w es => by simp only [Sem.runT]; rfl)
  | new o k ih => intro w es; exact ih _ (hs _) { w with heap := w.heap.push o } es
  | shape r k ih => intro w es; exact ih _ (hs _) w es
  | freeze a n k ih =>
    intro w es
    have h := ih hs (w.freeze a n) es
    have e1 : (w.freeze a n).drawn = w.drawn := by unfold World.freeze; split <;> rfl
    have e2 : (w.freeze a n).tape = w.tape := by unfold World.freeze; split <;> rfl
    rw [e1, e2] at h
    simp only [Sem.runT, on_freeze]
    exact h
  | frozen a k ih => intro w es; exact ih _ (hs _) w es
  | getObj r k ih =>
    intro w es
    simp only [Sem.runT, on_heap]
    cases w.heap[r]? with
    | none => exact ⟨Nat.le_refl _, rfl, fun τ d _ => by simp [Result.world, Result.on]⟩
    | some o => cases o <;> first | exact ih _ (hs _) w _ | exact ⟨Nat.le_refl _, rfl, fun τ d _ => by simp [Result.world, Result.on]⟩
  | setObj r o k ih =>
    intro w es
    simp only [Sem.runT, on_heap]
    cases w.heap[r]? with
    | none => exact ⟨Nat.le_refl _, rfl, fun τ d _ => by simp [Result.world, Result.on]⟩
    | some o' => cases o' <;> first | exact ih hs { w with heap := w.heap.setIfInBounds r o } _ | exact ⟨Nat.le_refl _, rfl, fun τ d _ => by simp [Result.world, Result.on]⟩
  | choose q k ih =>
    intro w es
    simp only [Sem.runT]
    by_cases hf : q.forced = true
    · simp only [if_pos hf]; exact ih 0 (hs _) w es
    · simp only [if_neg hf]
      obtain ⟨h1, h2, h3⟩ := ih (q.cut (w.tape w.drawn q)) (hs _) { w with drawn := w.drawn + 1 } es
      generalize hr : (k (q.cut (w.tape w.drawn q))).runT P { w with drawn := w.drawn + 1 } es = r at h1 h2 h3 ⊢
      simp only at h1 h2 h3
      refine ⟨by omega, h2, fun τ d h => ?_⟩
      have h0 := h 0 (by omega)
      simp only [Nat.add_zero] at h0
      have h3' := h3 τ (d + 1) (fun i hi => by have := h (i + 1) (by omega); rw [show d + 1 + i = d + (i + 1) by omega, this, show w.drawn + (i + 1) = w.drawn + 1 + i by omega])
      simp only [on_tape, on_drawn, h0]
      rw [show d + (r.1.world.drawn - w.drawn) = d + 1 + (r.1.world.drawn - (w.drawn + 1)) by omega]
      exact h3'
  | sys c k ih => exact hs.elim
  | program k ih => intro w es; exact ih P (hs _) w es
  | mark m k ih => intro w es; exact ih hs.2 w _
/-- 'Goes' without a count: g, in world w, comes to its stop, whatever R does to the world ahead of each step. -/
inductive GoesW (P : Program) (main : Bool) (R : World → World → Prop) (D : World → World → Array Event → Prop) (Stop : Goroutine → World → Prop) : Goroutine → World → Prop
  | stop {g : Goroutine} {w : World} (h : ∀ w₁, R w w₁ → Stop g w₁) : GoesW P main R D Stop g w
  | step {g : Goroutine} {w : World} (hs : g.status = .running) (hgo : ∀ w₁, R w w₁ → ∃ g' w' es, stepG P main g w₁ = .go g' w' es ∧ D w₁ w' es)
      (h : ∀ w₁ g' w' es, R w w₁ → stepG P main g w₁ = .go g' w' es → GoesW P main R D Stop g' w') : GoesW P main R D Stop g w
section
variable {P : Program} {main : Bool} {R : World → World → Prop} {D : World → World → Array Event → Prop} {Stop Stop' : Goroutine → World → Prop}
theorem GoesW.of_goes {n : Nat} : ∀ {g : Goroutine} {w : World}, Goes P main R D Stop n g w → GoesW P main R D Stop g w := by
  induction n with
  | zero => exact fun h => .stop h
  | succ n ih =>
    intro g w h
    rcases h with h | ⟨hs, h⟩
    · exact .stop h
    · refine .step hs (fun w₁ hr => ?_) (fun w₁ g' w' es hr hst => ?_)
      · have := h w₁ hr
        cases hst : stepG P main g w₁ with
        | go g' w' es => rw [hst, goes_go] at this; exact ⟨g', w', es, rfl, this.1⟩
        | _ => rw [hst] at this; exact this.elim
      · have := h w₁ hr
        rw [hst, goes_go] at this
        exact ih this.2
theorem GoesW.rely (trans : ∀ a b c, R a b → R b c → R a c) {g : Goroutine} {w w₁ : World} (h : GoesW P main R D Stop g w) (hr : R w w₁) : GoesW P main R D Stop g w₁ := by
  cases h with
  | stop h => exact .stop fun w₂ h₂ => h w₂ (trans _ _ _ hr h₂)
  | step hs hgo h => exact .step hs (fun w₂ h₂ => hgo w₂ (trans _ _ _ hr h₂)) (fun w₂ g' w' es h₂ hst => h w₂ g' w' es (trans _ _ _ hr h₂) hst)
/-- One walk behind another. -/
theorem GoesW.andThen {g : Goroutine} {w : World} (h : GoesW P main R D Stop g w) (hk : ∀ g w, (∀ w₁, R w w₁ → Stop g w₁) → GoesW P main R D Stop' g w) : GoesW P main R D Stop' g w := by
  induction h with
  | stop h => exact hk _ _ h
  | step hs hgo _ ih => exact .step hs hgo ih
end
section
variable {P : Program} {Shun : Loc → Prop} {B : Nat} {D : World → World → Array Event → Prop} {Stop : Goroutine → World → Prop}
theorem walk_besideW (hD : ∀ w w' es, D w w' es → ∀ e ∈ es, EvL Shun B e) {a : Goroutine} {w : World} (hG : GoesW P true AtRel D Stop a w) :
    ∀ (w₀ : World) (gs : Array Goroutine) (sl : Option (Nat × Nat)) (t : Trace) (q : Nat → Nat), AtRel w w₀ → gs[0]? = some a → Leavers P t gs q → Past Shun B t →
      ∃ (N : Nat) (gs' : Array Goroutine) (a' : Goroutine) (w' : World) (sl' : Option (Nat × Nat)) (t' : Trace) (q' : Nat → Nat),
        runNT P N (crowd gs w₀ sl) t = (.next (crowd gs' w' sl'), t') ∧ gs'.size = gs.size ∧ gs'[0]? = some a' ∧ Stop a' w' ∧ Leavers P t' gs' q' ∧ Past Shun B t' := by
  induction hG with
  | stop h => exact fun w₀ gs sl t q hr h0 hL hP => ⟨0, gs, _, w₀, sl, t, q, rfl, rfl, h0, h w₀ hr, hL, hP⟩
  | @step g w hs hgo _ ih =>
    intro w₀ gs sl t q hr h0 hL hP
    have one : Goes P true AtRel D (fun g' w' => ∃ w₁ w₂ es, AtRel w w₁ ∧ stepG P true g w₁ = .go g' w₂ es ∧ AtRel w₂ w') 1 g w₀ := by
      refine .inr ⟨hs, fun w₁ h₁ => ?_⟩
      have hr₁ := atRel_trans _ _ _ hr h₁
      obtain ⟨g', w', es, hst, hd⟩ := hgo w₁ hr₁
      rw [hst, goes_go]
      exact ⟨hd, fun w₂ h₂ => ⟨w₁, w', es, hr₁, hst, h₂⟩⟩
    obtain ⟨N, gs₁, a₁, w₁', sl₁, t₁, q₁, hrun, hsz, h0₁, ⟨w₁, w₂, es, hr₁, hst, hr₂⟩, hL₁, hP₁⟩ := walk_beside hD _ 1 gs g w₀ sl t q (Nat.le_refl _) h0 hL hP one
    obtain ⟨M, gs₂, a₂, w₂', sl₂, t₂, q₂, hrun₂, hsz₂, h0₂, hS, hL₂, hP₂⟩ := ih w₁ a₁ w₂ es hr₁ hst w₁' gs₁ sl₁ t₁ q₁ hr₂ h0₁ hL₁ hP₁
    exact ⟨N + M, gs₂, a₂, w₂', sl₂, t₂, q₂, by rw [runNT_add, hrun]; exact hrun₂, hsz₂.trans hsz, h0₂, hS, hL₂, hP₂⟩
end
theorem solo_goesW {P : Program} {Stop : Goroutine → World → Prop} {a : Goroutine} {w : World} (h : GoesW P true Eq D0 Stop a w) :
    ∀ t : Trace, ∃ k a' w' u, runNT P k (solo a w) t = (.next (solo a' w'), t ++ u) ∧ Stop a' w' ∧ Wordless u ∧ ∀ op ∈ u, op.g = 0 := by
  induction h with
  | stop h => exact fun t => ⟨0, _, _, #[], by simp [runNT], h _ rfl, by intro op hop; simp at hop, by intro op hop; simp at hop⟩
  | @step g w hs hgo _ ih =>
    intro t
    have one : Goes P true Eq D0 (fun g' w' => ∃ es, stepG P true g w = .go g' w' es) 1 g w := by
      refine .inr ⟨hs, fun w₁ h₁ => ?_⟩
      subst h₁
      obtain ⟨g', w', es, hst, hd⟩ := hgo w rfl
      rw [hst, goes_go]
      exact ⟨hd, fun w₂ h₂ => by subst h₂; exact ⟨es, rfl⟩⟩
    obtain ⟨k, a', w', u, hr, ⟨es, hst⟩, hu, h0⟩ := solo_goes t one
    obtain ⟨k', a'', w'', u', hr', hS, hu', h0'⟩ := ih w a' w' es rfl hst (t ++ u)
    exact ⟨k + k', a'', w'', u ++ u', by rw [runNT_add, hr, ← Array.append_assoc]; exact hr', hS, hu.append hu', fun op hop => (Array.mem_append.1 hop).elim (h0 op) (h0' op)⟩
/-- The lone goroutine comes to Q. -/
inductive Reach (P : Program) (Q : Goroutine → World → Prop) : Goroutine → World → Prop
  | here {g : Goroutine} {w : World} (h : Q g w) : Reach P Q g w
  | next {g g' : Goroutine} {w w' : World} {es : Array Event} (h : stepG P true g w = .go g' w' es) (hr : Reach P Q g' w') : Reach P Q g w
/-- What g's step does hangs on the answers that it takes and on no other. -/
def Local (P : Program) (g : Goroutine) : Prop :=
  ∀ w : World, ∃ N, ∀ (σ : Nat → Question → Nat) (e : Nat), (∀ i, i < N → σ (e + i) = w.tape (w.drawn + i)) →
    (∀ g' w' es, stepG P true g w = .go g' w' es → stepG P true g (w.on σ e) = .go g' (w'.on σ (e + N)) es) ∧
    ((∀ g' w' es, stepG P true g w ≠ .go g' w' es) → ∀ g' w' es, stepG P true g (w.on σ e) ≠ .go g' w' es)
section
variable {P : Program} {D : World → World → Array Event → Prop} {Stop : Goroutine → World → Prop} {Inv : Goroutine → Prop}
theorem goesW_of_reach (hL : ∀ g, Inv g → Local P g) (hrun : ∀ g, Inv g → g.status = .running)
    (hgo : ∀ g w g' w' es, Inv g → stepG P true g w = .go g' w' es → D w w' es ∧ (Inv g' ∨ Stop g' w'))
    (hB : ∀ g w τ d, Stop g w → Stop g (w.on τ d)) (g : Goroutine) (w : World) (hi : Inv g) (hR : ∀ σ, Reach P Stop g (w.on σ 0)) : GoesW P true AtRel D Stop g w := by
  classical
  refine Classical.byContradiction fun hn => ?_
  let Bad (g : Goroutine) (w : World) : Prop := Inv g ∧ ¬ GoesW P true AtRel D Stop g w
  have pick : ∀ (g : Goroutine) (w : World), ∃ d : Nat, Bad g w → (∀ g' w' es, stepG P true g (w.at d) ≠ .go g' w' es) ∨ ∃ g' w' es, stepG P true g (w.at d) = .go g' w' es ∧ Bad g' w' := by
    intro g w
    refine Classical.byContradiction fun hc => ?_
    have hc' : ∀ d, Bad g w ∧ ¬ ((∀ g' w' es, stepG P true g (w.at d) ≠ .go g' w' es) ∨ ∃ g' w' es, stepG P true g (w.at d) = .go g' w' es ∧ Bad g' w') := fun d => by
      refine Classical.byContradiction fun h => hc ⟨d, fun hb => Classical.byContradiction fun h' => h ⟨hb, h'⟩⟩
    have hb := (hc' 0).1
    refine hb.2 (.step (hrun _ hb.1) ?_ ?_)
    · rintro _ ⟨d, rfl⟩
      refine Classical.byContradiction fun h => (hc' d).2 (.inl fun g' w' es hst => h ⟨g', w', es, hst, (hgo _ _ _ _ _ hb.1 hst).1⟩)
    · rintro _ g' w' es ⟨d, rfl⟩ hst
      refine Classical.byContradiction fun h => ?_
      rcases (hgo _ _ _ _ _ hb.1 hst).2 with hi' | hs
      · exact (hc' d).2 (.inr ⟨g', w', es, hst, hi', h⟩)
      · exact h (.stop fun w₁ ⟨d', h'⟩ => h' ▸ hB _ _ w'.tape d' hs)
  obtain ⟨d, hd⟩ := Classical.skolem.1 fun g => Classical.skolem.1 (pick g)
  have num : ∀ (g : Goroutine) (w : World), ∃ N : Nat, Inv g → ∀ (σ : Nat → Question → Nat) (e : Nat), (∀ i, i < N → σ (e + i) = (w.at (d g w)).tape ((w.at (d g w)).drawn + i)) →
    (∀ g' w' es, stepG P true g (w.at (d g w)) = .go g' w' es → stepG P true g ((w.at (d g w)).on σ e) = .go g' (w'.on σ (e + N)) es) ∧
    ((∀ g' w' es, stepG P true g (w.at (d g w)) ≠ .go g' w' es) → ∀ g' w' es, stepG P true g ((w.at (d g w)).on σ e) ≠ .go g' w' es) := fun g w => by
    by_cases h : Inv g
    · obtain ⟨N, hN⟩ := hL g h (w.at (d g w))
      exact ⟨N, fun _ => hN⟩
    · exact ⟨0, fun h' => absurd h' h⟩
  obtain ⟨N, hN⟩ := Classical.skolem.1 fun g => Classical.skolem.1 (num g)
  let F (x : Goroutine × World × Nat) : Goroutine × World × Nat :=
    match stepG P true x.1 (x.2.1.at (d x.1 x.2.1)) with
    | .go g' w' _ => (g', w', x.2.2 + N x.1 x.2.1)
    | _ => (x.1, x.2.1, x.2.2 + N x.1 x.2.1)
  let s (i : Nat) : Goroutine × World × Nat := Nat.rec (g, w, 0) (fun _ x => F x) i
  have hsucc : ∀ i, s (i + 1) = F (s i) := fun _ => rfl
  have hK : ∀ i, (s (i + 1)).2.2 = (s i).2.2 + N (s i).1 (s i).2.1 := by
    intro i
    rw [hsucc]
    simp only [F]
    split <;> rfl
  have hmono : ∀ i j, i ≤ j → (s i).2.2 ≤ (s j).2.2 := by
    intro i j hij
    induction hij with
    | refl => exact Nat.le_refl _
    | step _ ih => exact Nat.le_trans ih (by rw [hK]; exact Nat.le_add_right _ _)
  let σ (n : Nat) : Question → Nat := if h : ∃ i, (s i).2.2 ≤ n ∧ n < (s (i + 1)).2.2 then
      (s h.choose).2.1.tape (d (s h.choose).1 (s h.choose).2.1 + (n - (s h.choose).2.2)) else fun _ => 0
  have hσ : ∀ i k, k < N (s i).1 (s i).2.1 → σ ((s i).2.2 + k) = (s i).2.1.tape (d (s i).1 (s i).2.1 + k) := by
    intro i k hk
    have h : ∃ j, (s j).2.2 ≤ (s i).2.2 + k ∧ (s i).2.2 + k < (s (j + 1)).2.2 := ⟨i, Nat.le_add_right _ _, by rw [hK]; omega⟩
    have hu : h.choose = i := by
      have hc := h.choose_spec
      rcases Nat.lt_trichotomy h.choose i with hlt | he | hgt
      · have := hmono (h.choose + 1) i hlt
        omega
      · exact he
      · have := hmono (i + 1) h.choose hgt
        rw [hK] at this
        omega
    simp only [σ]
    rw [dif_pos h, hu]
    congr 1
    omega
  have key : ∀ g' w', Reach P Stop g' w' → ∀ i, Bad (s i).1 (s i).2.1 → g' = (s i).1 → w' = (s i).2.1.on σ (s i).2.2 → False := by
    intro g' w' hr
    induction hr with
    | here h =>
      rintro i hb rfl rfl
      refine hb.2 (.stop fun w₁ ⟨d', h'⟩ => ?_)
      subst h'
      have := hB (s i).1 ((s i).2.1.on σ (s i).2.2) (s i).2.1.tape d' h
      exact this
    | next h hr ih =>
      rintro i hb rfl rfl
      have hw := hN (s i).1 (s i).2.1 hb.1 σ (s i).2.2 (fun k hk => hσ i k hk)
      have he : ((s i).2.1.at (d (s i).1 (s i).2.1)).on σ (s i).2.2 = (s i).2.1.on σ (s i).2.2 := rfl
      rw [he] at hw
      rcases hd (s i).1 (s i).2.1 hb with hno | ⟨g₁, w₁, es₁, hst, hb'⟩
      · exact hw.2 hno _ _ _ h
      · have h2 := hw.1 _ _ _ hst
        rw [h] at h2
        injection h2 with e1 e2 e3
        have hs1 : s (i + 1) = (g₁, w₁, (s i).2.2 + N (s i).1 (s i).2.1) := by
          rw [hsucc]
          simp only [F, hst]
        exact ih (i + 1) (by rw [hs1]; exact hb') (by rw [hs1]; exact e1) (by rw [hs1]; exact e2)
  exact key g _ (hR σ) 0 ⟨hi, hn⟩ rfl rfl
end
end Go.Proofs.Ytaeaacdjiijooaa.Lift

namespace Go.Proofs.Ytaeaacdjiijooaa.Lift
open Go
/-! ### what operations are still -/
theorem Still.bind' {α β : Type} {s : Sem α} {f : α → Sem β} (hs : Still s) (hf : ∀ a, Still (f a)) : Still (s >>= f) := hs.bind hf
theorem Still.map' {α β : Type} {s : Sem α} (f : α → β) (hs : Still s) : Still (f <$> s) := hs.bind (fun _ => trivial)
theorem still_program : Still program := fun _ => trivial
theorem still_load (a : Addr) (m : Mode) : Still (load a m) := fun _ => trivial
theorem still_store (a : Addr) (v : Value) (m : Mode) : Still (store a v m) := trivial
theorem still_newObj (o : Obj) : Still (newObj o) := fun _ => trivial
theorem still_getObj (r : Nat) : Still (getObj r) := fun _ => trivial
theorem still_setObj (r : Nat) (o : Obj) : Still (setObj r o) := trivial
theorem still_choose (q : Question) : Still (choose q) := fun _ => trivial
theorem still_shape (r : Nat) : Still (shape r) := fun _ => trivial
theorem still_freeze (a : Addr) (n : Nat) : Still (freeze a n) := trivial
theorem still_frozen (a : Addr) : Still (frozen a) := fun _ => trivial
theorem still_noRoom : Still (mark .noRoom) := ⟨rfl, trivial⟩
theorem still_askRoom (b : Nat) : Still (askRoom b) := by
  unfold askRoom
  split
  · exact still_noRoom
  · exact trivial
theorem Still.forIn_list {α β : Type} (f : α → β → Sem (ForInStep β)) (hf : ∀ a b, Still (f a b)) : ∀ (l : List α) (b : β), Still (forIn l b f)
  | [], b => trivial
  | a :: l, b => by
    rw [List.forIn_cons]
    refine Still.bind' (hf a b) (fun r => ?_)
    cases r with
    | done b => exact trivial
    | yield b => exact Still.forIn_list f hf l b
theorem Still.forIn_array {α β : Type} (f : α → β → Sem (ForInStep β)) (hf : ∀ a b, Still (f a b)) (l : Array α) (b : β) : Still (forIn l b f) := by
  rw [← Array.forIn_toList]
  exact Still.forIn_list f hf _ b
theorem Still.forIn_range {β : Type} (f : Nat → β → Sem (ForInStep β)) (hf : ∀ a b, Still (f a b)) (l : Std.Legacy.Range) (b : β) : Still (forIn l b f) := by
  rw [Std.Legacy.Range.forIn_eq_forIn_range']
  exact Still.forIn_list f hf _ b
theorem Still.foldlM {α β : Type} (f : β → α → Sem β) (hf : ∀ b a, Still (f b a)) : ∀ (l : List α) (b : β), Still (l.foldlM f b)
  | [], b => trivial
  | a :: l, b => by
    rw [List.foldlM_cons]
    exact Still.bind' (hf b a) (fun r => Still.foldlM f hf l r)
theorem Still.mapM_list {α β : Type} (f : α → Sem β) (hf : ∀ a, Still (f a)) : ∀ (l : List α), Still (l.mapM f)
  | [] => trivial
  | a :: l => by
    rw [List.mapM_cons]
    exact Still.bind' (hf a) (fun r => Still.bind' (Still.mapM_list f hf l) (fun _ => trivial))
theorem Still.mapM_array {α β : Type} (f : α → Sem β) (hf : ∀ a, Still (f a)) (l : Array α) : Still (l.mapM f) := by
  rw [Array.mapM_eq_mapM_toList]
  exact Still.map' _ (Still.mapM_list f hf _)
theorem Still.ite {α : Type} {c : Prop} [Decidable c] {a b : Sem α} (ha : c → Still a) (hb : ¬ c → Still b) : Still (if c then a else b) := by
  split
  · exact ha ‹_›
  · exact hb ‹_›
theorem still_pure {α : Type} (a : α) : Still (pure a : Sem α) := trivial
theorem still_goPanic {α : Type} (v : Value) : Still (goPanic v : Sem α) := rfl
theorem still_stuck {α : Type} (m : String) : Still (stuck m : Sem α) := rfl
theorem still_unsupported {α : Type} (m : Unsupported) : Still (unsupported m : Sem α) := rfl
theorem still_typeInfo (t : TypeId) : Still (typeInfo t) := by unfold typeInfo; (repeat' (with_reducible first | exact still_pure _ | exact still_stuck _ | exact still_goPanic _ | exact still_unsupported _ | intro _ | exact still_program | exact still_load _ _ | exact still_store _ _ _ | exact still_newObj _ | exact still_getObj _ | exact still_setObj _ _ | exact still_choose _ | exact still_shape _ | exact still_freeze _ _ | exact still_frozen _ | exact still_askRoom _ | exact still_noRoom | assumption | (apply_assumption; done) | refine Still.bind' ?_ ?_ | refine Still.map' _ ?_ | refine Still.forIn_array _ ?_ _ _ | refine Still.forIn_range _ ?_ _ _ | refine Still.foldlM _ ?_ _ _ | refine Still.mapM_array _ ?_ _ | dsimp only | refine Still.ite (fun _ => ?_) (fun _ => ?_) | split | exact trivial))
theorem still_underlying (t : TypeId) : Still (underlying t) := by unfold underlying; (repeat' (with_reducible first | exact still_pure _ | exact still_stuck _ | exact still_goPanic _ | exact still_unsupported _ | intro _ | exact still_program | exact still_load _ _ | exact still_store _ _ _ | exact still_newObj _ | exact still_getObj _ | exact still_setObj _ _ | exact still_choose _ | exact still_shape _ | exact still_freeze _ _ | exact still_frozen _ | exact still_askRoom _ | exact still_noRoom | assumption | (apply_assumption; done) | refine Still.bind' ?_ ?_ | refine Still.map' _ ?_ | refine Still.forIn_array _ ?_ _ _ | refine Still.forIn_range _ ?_ _ _ | refine Still.foldlM _ ?_ _ _ | refine Still.mapM_array _ ?_ _ | dsimp only | refine Still.ite (fun _ => ?_) (fun _ => ?_) | split | exact trivial))
theorem still_zeroValue (t : TypeId) : Still (zeroValue t) := by unfold zeroValue; have := still_typeInfo; (repeat' (with_reducible first | exact still_pure _ | exact still_stuck _ | exact still_goPanic _ | exact still_unsupported _ | intro _ | exact still_program | exact still_load _ _ | exact still_store _ _ _ | exact still_newObj _ | exact still_getObj _ | exact still_setObj _ _ | exact still_choose _ | exact still_shape _ | exact still_freeze _ _ | exact still_frozen _ | exact still_askRoom _ | exact still_noRoom | assumption | (apply_assumption; done) | refine Still.bind' ?_ ?_ | refine Still.map' _ ?_ | refine Still.forIn_array _ ?_ _ _ | refine Still.forIn_range _ ?_ _ _ | refine Still.foldlM _ ?_ _ _ | refine Still.mapM_array _ ?_ _ | dsimp only | refine Still.ite (fun _ => ?_) (fun _ => ?_) | split | exact trivial))
theorem still_sizeOf (t : TypeId) : Still (sizeOf t) := by unfold sizeOf; have := still_typeInfo; (repeat' (with_reducible first | exact still_pure _ | exact still_stuck _ | exact still_goPanic _ | exact still_unsupported _ | intro _ | exact still_program | exact still_load _ _ | exact still_store _ _ _ | exact still_newObj _ | exact still_getObj _ | exact still_setObj _ _ | exact still_choose _ | exact still_shape _ | exact still_freeze _ _ | exact still_frozen _ | exact still_askRoom _ | exact still_noRoom | assumption | (apply_assumption; done) | refine Still.bind' ?_ ?_ | refine Still.map' _ ?_ | refine Still.forIn_array _ ?_ _ _ | refine Still.forIn_range _ ?_ _ _ | refine Still.foldlM _ ?_ _ _ | refine Still.mapM_array _ ?_ _ | dsimp only | refine Still.ite (fun _ => ?_) (fun _ => ?_) | split | exact trivial))
theorem still_isAgg (t : TypeId) : Still (isAgg t) := by unfold isAgg; have := still_underlying; (repeat' (with_reducible first | exact still_pure _ | exact still_stuck _ | exact still_goPanic _ | exact still_unsupported _ | intro _ | exact still_program | exact still_load _ _ | exact still_store _ _ _ | exact still_newObj _ | exact still_getObj _ | exact still_setObj _ _ | exact still_choose _ | exact still_shape _ | exact still_freeze _ _ | exact still_frozen _ | exact still_askRoom _ | exact still_noRoom | assumption | (apply_assumption; done) | refine Still.bind' ?_ ?_ | refine Still.map' _ ?_ | refine Still.forIn_array _ ?_ _ _ | refine Still.forIn_range _ ?_ _ _ | refine Still.foldlM _ ?_ _ _ | refine Still.mapM_array _ ?_ _ | dsimp only | refine Still.ite (fun _ => ?_) (fun _ => ?_) | split | exact trivial))
theorem still_elemOf (t : TypeId) : Still (elemOf t) := by unfold elemOf; have := still_underlying; (repeat' (with_reducible first | exact still_pure _ | exact still_stuck _ | exact still_goPanic _ | exact still_unsupported _ | intro _ | exact still_program | exact still_load _ _ | exact still_store _ _ _ | exact still_newObj _ | exact still_getObj _ | exact still_setObj _ _ | exact still_choose _ | exact still_shape _ | exact still_freeze _ _ | exact still_frozen _ | exact still_askRoom _ | exact still_noRoom | assumption | (apply_assumption; done) | refine Still.bind' ?_ ?_ | refine Still.map' _ ?_ | refine Still.forIn_array _ ?_ _ _ | refine Still.forIn_range _ ?_ _ _ | refine Still.foldlM _ ?_ _ _ | refine Still.mapM_array _ ?_ _ | dsimp only | refine Still.ite (fun _ => ?_) (fun _ => ?_) | split | exact trivial))
theorem still_typeStr (t : TypeId) : Still (typeStr t) := by unfold typeStr; have := still_typeInfo; (repeat' (with_reducible first | exact still_pure _ | exact still_stuck _ | exact still_goPanic _ | exact still_unsupported _ | intro _ | exact still_program | exact still_load _ _ | exact still_store _ _ _ | exact still_newObj _ | exact still_getObj _ | exact still_setObj _ _ | exact still_choose _ | exact still_shape _ | exact still_freeze _ _ | exact still_frozen _ | exact still_askRoom _ | exact still_noRoom | assumption | (apply_assumption; done) | refine Still.bind' ?_ ?_ | refine Still.map' _ ?_ | refine Still.forIn_array _ ?_ _ _ | refine Still.forIn_range _ ?_ _ _ | refine Still.foldlM _ ?_ _ _ | refine Still.mapM_array _ ?_ _ | dsimp only | refine Still.ite (fun _ => ?_) (fun _ => ?_) | split | exact trivial))
theorem still_loadCellsFrom (a : Addr) : ∀ (n i : Nat) (acc : Array Value), Still (loadCellsFrom a i n acc)
  | 0, i, acc => trivial
  | n + 1, i, acc => by
    unfold loadCellsFrom
    exact Still.bind' (still_load _ _) (fun v => still_loadCellsFrom a n (i + 1) _)
theorem still_loadCells (a : Addr) (n : Nat) : Still (loadCells a n) := still_loadCellsFrom a n 0 #[]
theorem still_storeCells (a : Addr) : ∀ (vs : List Value) (i : Nat), Still (storeCells a vs i)
  | [], i => trivial
  | v :: vs, i => by
    unfold storeCells
    exact Still.bind' (still_store _ _ _) (fun _ => still_storeCells a vs (i + 1))
theorem still_loadVar (t : TypeId) (a : Addr) : Still (loadVar t a) := by unfold loadVar; have := still_isAgg; have h2 := still_sizeOf; have h3 := still_loadCells; (repeat' (with_reducible first | exact still_pure _ | exact still_stuck _ | exact still_goPanic _ | exact still_unsupported _ | intro _ | exact still_program | exact still_load _ _ | exact still_store _ _ _ | exact still_newObj _ | exact still_getObj _ | exact still_setObj _ _ | exact still_choose _ | exact still_shape _ | exact still_freeze _ _ | exact still_frozen _ | exact still_askRoom _ | exact still_noRoom | assumption | (apply_assumption; done) | refine Still.bind' ?_ ?_ | refine Still.map' _ ?_ | refine Still.forIn_array _ ?_ _ _ | refine Still.forIn_range _ ?_ _ _ | refine Still.foldlM _ ?_ _ _ | refine Still.mapM_array _ ?_ _ | dsimp only | refine Still.ite (fun _ => ?_) (fun _ => ?_) | split | exact trivial))
theorem still_storeVar (t : TypeId) (a : Addr) (v : Value) : Still (storeVar t a v) := by unfold storeVar; have h2 := still_sizeOf; have h3 := still_storeCells; (repeat' (with_reducible first | exact still_pure _ | exact still_stuck _ | exact still_goPanic _ | exact still_unsupported _ | intro _ | exact still_program | exact still_load _ _ | exact still_store _ _ _ | exact still_newObj _ | exact still_getObj _ | exact still_setObj _ _ | exact still_choose _ | exact still_shape _ | exact still_freeze _ _ | exact still_frozen _ | exact still_askRoom _ | exact still_noRoom | assumption | (apply_assumption; done) | refine Still.bind' ?_ ?_ | refine Still.map' _ ?_ | refine Still.forIn_array _ ?_ _ _ | refine Still.forIn_range _ ?_ _ _ | refine Still.foldlM _ ?_ _ _ | refine Still.mapM_array _ ?_ _ | dsimp only | refine Still.ite (fun _ => ?_) (fun _ => ?_) | split | exact trivial))
theorem still_newRow (t : TypeId) (c : Array Value) : Still (newRow t c) := by unfold newRow; (repeat' (with_reducible first | exact still_pure _ | exact still_stuck _ | exact still_goPanic _ | exact still_unsupported _ | intro _ | exact still_program | exact still_load _ _ | exact still_store _ _ _ | exact still_newObj _ | exact still_getObj _ | exact still_setObj _ _ | exact still_choose _ | exact still_shape _ | exact still_freeze _ _ | exact still_frozen _ | exact still_askRoom _ | exact still_noRoom | assumption | (apply_assumption; done) | refine Still.bind' ?_ ?_ | refine Still.map' _ ?_ | refine Still.forIn_array _ ?_ _ _ | refine Still.forIn_range _ ?_ _ _ | refine Still.foldlM _ ?_ _ _ | refine Still.mapM_array _ ?_ _ | dsimp only | refine Still.ite (fun _ => ?_) (fun _ => ?_) | split | exact trivial))
theorem still_newVar (t : TypeId) (v : Value) : Still (newVar t v) := still_newRow _ _
theorem still_part (t : TypeId) (cs : Array Value) (off : Nat) : Still (part t cs off) := by unfold part; have := still_isAgg; have h2 := still_sizeOf; (repeat' (with_reducible first | exact still_pure _ | exact still_stuck _ | exact still_goPanic _ | exact still_unsupported _ | intro _ | exact still_program | exact still_load _ _ | exact still_store _ _ _ | exact still_newObj _ | exact still_getObj _ | exact still_setObj _ _ | exact still_choose _ | exact still_shape _ | exact still_freeze _ _ | exact still_frozen _ | exact still_askRoom _ | exact still_noRoom | assumption | (apply_assumption; done) | refine Still.bind' ?_ ?_ | refine Still.map' _ ?_ | refine Still.forIn_array _ ?_ _ _ | refine Still.forIn_range _ ?_ _ _ | refine Still.foldlM _ ?_ _ _ | refine Still.mapM_array _ ?_ _ | dsimp only | refine Still.ite (fun _ => ?_) (fun _ => ?_) | split | exact trivial))
theorem still_runtimePanic {α : Type} (e : RuntimeError) : Still (runtimePanic e : Sem α) := by
  unfold runtimePanic
  have h1 := still_elemOf; have h2 := still_newVar
  refine Still.bind' still_program (fun p => ?_)
  cases e <;> (repeat' (with_reducible first | exact still_pure _ | exact still_stuck _ | exact still_goPanic _ | exact still_unsupported _ | intro _ | exact still_program | exact still_load _ _ | exact still_store _ _ _ | exact still_newObj _ | exact still_getObj _ | exact still_setObj _ _ | exact still_choose _ | exact still_shape _ | exact still_freeze _ _ | exact still_frozen _ | exact still_askRoom _ | exact still_noRoom | assumption | (apply_assumption; done) | refine Still.bind' ?_ ?_ | refine Still.map' _ ?_ | refine Still.forIn_array _ ?_ _ _ | refine Still.forIn_range _ ?_ _ _ | refine Still.foldlM _ ?_ _ _ | refine Still.mapM_array _ ?_ _ | dsimp only | refine Still.ite (fun _ => ?_) (fun _ => ?_) | split | exact trivial))
theorem still_boundsPanic {α : Type} (k : IntKind) (x y : Int) (c : BoundsCode) : Still (boundsPanic k x y c : Sem α) := by
  unfold boundsPanic
  have h := @still_runtimePanic α
  (repeat' (with_reducible first | exact still_pure _ | exact still_stuck _ | exact still_goPanic _ | exact still_unsupported _ | intro _ | exact still_program | exact still_load _ _ | exact still_store _ _ _ | exact still_newObj _ | exact still_getObj _ | exact still_setObj _ _ | exact still_choose _ | exact still_shape _ | exact still_freeze _ _ | exact still_frozen _ | exact still_askRoom _ | exact still_noRoom | assumption | (apply_assumption; done) | refine Still.bind' ?_ ?_ | refine Still.map' _ ?_ | refine Still.forIn_array _ ?_ _ _ | refine Still.forIn_range _ ?_ _ _ | refine Still.foldlM _ ?_ _ _ | refine Still.mapM_array _ ?_ _ | dsimp only | refine Still.ite (fun _ => ?_) (fun _ => ?_) | split | exact trivial))
theorem still_asIntOf (v : Value) : Still (asIntOf v) := by unfold asIntOf; (repeat' (with_reducible first | exact still_pure _ | exact still_stuck _ | exact still_goPanic _ | exact still_unsupported _ | intro _ | exact still_program | exact still_load _ _ | exact still_store _ _ _ | exact still_newObj _ | exact still_getObj _ | exact still_setObj _ _ | exact still_choose _ | exact still_shape _ | exact still_freeze _ _ | exact still_frozen _ | exact still_askRoom _ | exact still_noRoom | assumption | (apply_assumption; done) | refine Still.bind' ?_ ?_ | refine Still.map' _ ?_ | refine Still.forIn_array _ ?_ _ _ | refine Still.forIn_range _ ?_ _ _ | refine Still.foldlM _ ?_ _ _ | refine Still.mapM_array _ ?_ _ | dsimp only | refine Still.ite (fun _ => ?_) (fun _ => ?_) | split | exact trivial))
theorem still_asInt (v : Value) : Still (asInt v) := by unfold asInt; have := still_asIntOf; (repeat' (with_reducible first | exact still_pure _ | exact still_stuck _ | exact still_goPanic _ | exact still_unsupported _ | intro _ | exact still_program | exact still_load _ _ | exact still_store _ _ _ | exact still_newObj _ | exact still_getObj _ | exact still_setObj _ _ | exact still_choose _ | exact still_shape _ | exact still_freeze _ _ | exact still_frozen _ | exact still_askRoom _ | exact still_noRoom | assumption | (apply_assumption; done) | refine Still.bind' ?_ ?_ | refine Still.map' _ ?_ | refine Still.forIn_array _ ?_ _ _ | refine Still.forIn_range _ ?_ _ _ | refine Still.foldlM _ ?_ _ _ | refine Still.mapM_array _ ?_ _ | dsimp only | refine Still.ite (fun _ => ?_) (fun _ => ?_) | split | exact trivial))
theorem still_asBool (v : Value) : Still (asBool v) := by unfold asBool; (repeat' (with_reducible first | exact still_pure _ | exact still_stuck _ | exact still_goPanic _ | exact still_unsupported _ | intro _ | exact still_program | exact still_load _ _ | exact still_store _ _ _ | exact still_newObj _ | exact still_getObj _ | exact still_setObj _ _ | exact still_choose _ | exact still_shape _ | exact still_freeze _ _ | exact still_frozen _ | exact still_askRoom _ | exact still_noRoom | assumption | (apply_assumption; done) | refine Still.bind' ?_ ?_ | refine Still.map' _ ?_ | refine Still.forIn_array _ ?_ _ _ | refine Still.forIn_range _ ?_ _ _ | refine Still.foldlM _ ?_ _ _ | refine Still.mapM_array _ ?_ _ | dsimp only | refine Still.ite (fun _ => ?_) (fun _ => ?_) | split | exact trivial))
theorem still_asAgg (v : Value) : Still (asAgg v) := by unfold asAgg; (repeat' (with_reducible first | exact still_pure _ | exact still_stuck _ | exact still_goPanic _ | exact still_unsupported _ | intro _ | exact still_program | exact still_load _ _ | exact still_store _ _ _ | exact still_newObj _ | exact still_getObj _ | exact still_setObj _ _ | exact still_choose _ | exact still_shape _ | exact still_freeze _ _ | exact still_frozen _ | exact still_askRoom _ | exact still_noRoom | assumption | (apply_assumption; done) | refine Still.bind' ?_ ?_ | refine Still.map' _ ?_ | refine Still.forIn_array _ ?_ _ _ | refine Still.forIn_range _ ?_ _ _ | refine Still.foldlM _ ?_ _ _ | refine Still.mapM_array _ ?_ _ | dsimp only | refine Still.ite (fun _ => ?_) (fun _ => ?_) | split | exact trivial))
theorem still_asAddr (v : Value) : Still (asAddr v) := by unfold asAddr; have := @still_runtimePanic Addr; (repeat' (with_reducible first | exact still_pure _ | exact still_stuck _ | exact still_goPanic _ | exact still_unsupported _ | intro _ | exact still_program | exact still_load _ _ | exact still_store _ _ _ | exact still_newObj _ | exact still_getObj _ | exact still_setObj _ _ | exact still_choose _ | exact still_shape _ | exact still_freeze _ _ | exact still_frozen _ | exact still_askRoom _ | exact still_noRoom | assumption | (apply_assumption; done) | refine Still.bind' ?_ ?_ | refine Still.map' _ ?_ | refine Still.forIn_array _ ?_ _ _ | refine Still.forIn_range _ ?_ _ _ | refine Still.foldlM _ ?_ _ _ | refine Still.mapM_array _ ?_ _ | dsimp only | refine Still.ite (fun _ => ?_) (fun _ => ?_) | split | exact trivial))
theorem still_sureAddr (v : Value) : Still (Instr.sureAddr v) := by unfold Instr.sureAddr; (repeat' (with_reducible first | exact still_pure _ | exact still_stuck _ | exact still_goPanic _ | exact still_unsupported _ | intro _ | exact still_program | exact still_load _ _ | exact still_store _ _ _ | exact still_newObj _ | exact still_getObj _ | exact still_setObj _ _ | exact still_choose _ | exact still_shape _ | exact still_freeze _ _ | exact still_frozen _ | exact still_askRoom _ | exact still_noRoom | assumption | (apply_assumption; done) | refine Still.bind' ?_ ?_ | refine Still.map' _ ?_ | refine Still.forIn_array _ ?_ _ _ | refine Still.forIn_range _ ?_ _ _ | refine Still.foldlM _ ?_ _ _ | refine Still.mapM_array _ ?_ _ | dsimp only | refine Still.ite (fun _ => ?_) (fun _ => ?_) | split | exact trivial))
theorem still_alloc (t : TypeId) (h : Bool) (v : Value) : Still (Instr.alloc t h v) := by unfold Instr.alloc; have h1 := still_zeroValue; have h2 := still_storeVar; have h3 := still_newVar; (repeat' (with_reducible first | exact still_pure _ | exact still_stuck _ | exact still_goPanic _ | exact still_unsupported _ | intro _ | exact still_program | exact still_load _ _ | exact still_store _ _ _ | exact still_newObj _ | exact still_getObj _ | exact still_setObj _ _ | exact still_choose _ | exact still_shape _ | exact still_freeze _ _ | exact still_frozen _ | exact still_askRoom _ | exact still_noRoom | assumption | (apply_assumption; done) | refine Still.bind' ?_ ?_ | refine Still.map' _ ?_ | refine Still.forIn_array _ ?_ _ _ | refine Still.forIn_range _ ?_ _ _ | refine Still.foldlM _ ?_ _ _ | refine Still.mapM_array _ ?_ _ | dsimp only | refine Still.ite (fun _ => ?_) (fun _ => ?_) | split | exact trivial))
theorem still_box (t : TypeId) (v : Value) : Still (Instr.box t v) := by unfold Instr.box; have h3 := still_newVar; (repeat' (with_reducible first | exact still_pure _ | exact still_stuck _ | exact still_goPanic _ | exact still_unsupported _ | intro _ | exact still_program | exact still_load _ _ | exact still_store _ _ _ | exact still_newObj _ | exact still_getObj _ | exact still_setObj _ _ | exact still_choose _ | exact still_shape _ | exact still_freeze _ _ | exact still_frozen _ | exact still_askRoom _ | exact still_noRoom | assumption | (apply_assumption; done) | refine Still.bind' ?_ ?_ | refine Still.map' _ ?_ | refine Still.forIn_array _ ?_ _ _ | refine Still.forIn_range _ ?_ _ _ | refine Still.foldlM _ ?_ _ _ | refine Still.mapM_array _ ?_ _ | dsimp only | refine Still.ite (fun _ => ?_) (fun _ => ?_) | split | exact trivial))
theorem still_loadAt (t : TypeId) (v : Value) : Still (Instr.loadAt t v) := by unfold Instr.loadAt; have h1 := still_sureAddr; have h3 := still_loadVar; (repeat' (with_reducible first | exact still_pure _ | exact still_stuck _ | exact still_goPanic _ | exact still_unsupported _ | intro _ | exact still_program | exact still_load _ _ | exact still_store _ _ _ | exact still_newObj _ | exact still_getObj _ | exact still_setObj _ _ | exact still_choose _ | exact still_shape _ | exact still_freeze _ _ | exact still_frozen _ | exact still_askRoom _ | exact still_noRoom | assumption | (apply_assumption; done) | refine Still.bind' ?_ ?_ | refine Still.map' _ ?_ | refine Still.forIn_array _ ?_ _ _ | refine Still.forIn_range _ ?_ _ _ | refine Still.foldlM _ ?_ _ _ | refine Still.mapM_array _ ?_ _ | dsimp only | refine Still.ite (fun _ => ?_) (fun _ => ?_) | split | exact trivial))
theorem still_storeAt (t : TypeId) (a v : Value) : Still (Instr.storeAt t a v) := by unfold Instr.storeAt; have h1 := still_sureAddr; have h3 := still_storeVar; (repeat' (with_reducible first | exact still_pure _ | exact still_stuck _ | exact still_goPanic _ | exact still_unsupported _ | intro _ | exact still_program | exact still_load _ _ | exact still_store _ _ _ | exact still_newObj _ | exact still_getObj _ | exact still_setObj _ _ | exact still_choose _ | exact still_shape _ | exact still_freeze _ _ | exact still_frozen _ | exact still_askRoom _ | exact still_noRoom | assumption | (apply_assumption; done) | refine Still.bind' ?_ ?_ | refine Still.map' _ ?_ | refine Still.forIn_array _ ?_ _ _ | refine Still.forIn_range _ ?_ _ _ | refine Still.foldlM _ ?_ _ _ | refine Still.mapM_array _ ?_ _ | dsimp only | refine Still.ite (fun _ => ?_) (fun _ => ?_) | split | exact trivial))
theorem still_viewAt (r : Nat) : Still (viewAt r) := by unfold viewAt; (repeat' (with_reducible first | exact still_pure _ | exact still_stuck _ | exact still_goPanic _ | exact still_unsupported _ | intro _ | exact still_program | exact still_load _ _ | exact still_store _ _ _ | exact still_newObj _ | exact still_getObj _ | exact still_setObj _ _ | exact still_choose _ | exact still_shape _ | exact still_freeze _ _ | exact still_frozen _ | exact still_askRoom _ | exact still_noRoom | assumption | (apply_assumption; done) | refine Still.bind' ?_ ?_ | refine Still.map' _ ?_ | refine Still.forIn_array _ ?_ _ _ | refine Still.forIn_range _ ?_ _ _ | refine Still.foldlM _ ?_ _ _ | refine Still.mapM_array _ ?_ _ | dsimp only | refine Still.ite (fun _ => ?_) (fun _ => ?_) | split | exact trivial))
theorem still_cellsIn (r : Nat) : Still (cellsIn r) := by unfold cellsIn; (repeat' (with_reducible first | exact still_pure _ | exact still_stuck _ | exact still_goPanic _ | exact still_unsupported _ | intro _ | exact still_program | exact still_load _ _ | exact still_store _ _ _ | exact still_newObj _ | exact still_getObj _ | exact still_setObj _ _ | exact still_choose _ | exact still_shape _ | exact still_freeze _ _ | exact still_frozen _ | exact still_askRoom _ | exact still_noRoom | assumption | (apply_assumption; done) | refine Still.bind' ?_ ?_ | refine Still.map' _ ?_ | refine Still.forIn_array _ ?_ _ _ | refine Still.forIn_range _ ?_ _ _ | refine Still.foldlM _ ?_ _ _ | refine Still.mapM_array _ ?_ _ | dsimp only | refine Still.ite (fun _ => ?_) (fun _ => ?_) | split | exact trivial))
theorem still_noView (a : Addr) : Still (noView a) := by unfold noView; have h := still_viewAt; (repeat' (with_reducible first | exact still_pure _ | exact still_stuck _ | exact still_goPanic _ | exact still_unsupported _ | intro _ | exact still_program | exact still_load _ _ | exact still_store _ _ _ | exact still_newObj _ | exact still_getObj _ | exact still_setObj _ _ | exact still_choose _ | exact still_shape _ | exact still_freeze _ _ | exact still_frozen _ | exact still_askRoom _ | exact still_noRoom | assumption | (apply_assumption; done) | refine Still.bind' ?_ ?_ | refine Still.map' _ ?_ | refine Still.forIn_array _ ?_ _ _ | refine Still.forIn_range _ ?_ _ _ | refine Still.foldlM _ ?_ _ _ | refine Still.mapM_array _ ?_ _ | dsimp only | refine Still.ite (fun _ => ?_) (fun _ => ?_) | split | exact trivial))
theorem still_byteOf (a : Addr) : Still (byteOf a) := by unfold byteOf; have h0 := still_noView; have h1 := still_viewAt; have h2 := still_cellsIn; have h3 := still_typeInfo; (repeat' (with_reducible first | exact still_pure _ | exact still_stuck _ | exact still_goPanic _ | exact still_unsupported _ | intro _ | exact still_program | exact still_load _ _ | exact still_store _ _ _ | exact still_newObj _ | exact still_getObj _ | exact still_setObj _ _ | exact still_choose _ | exact still_shape _ | exact still_freeze _ _ | exact still_frozen _ | exact still_askRoom _ | exact still_noRoom | assumption | (apply_assumption; done) | refine Still.bind' ?_ ?_ | refine Still.map' _ ?_ | refine Still.forIn_array _ ?_ _ _ | refine Still.forIn_range _ ?_ _ _ | refine Still.foldlM _ ?_ _ _ | refine Still.mapM_array _ ?_ _ | dsimp only | refine Still.ite (fun _ => ?_) (fun _ => ?_) | split | exact trivial))
theorem still_partAt (a : Addr) (n m : Nat) : Still (partAt a n m) := by unfold partAt; have h := still_viewAt; have h2 := still_noView; have h3 := still_byteOf; have h4 := still_typeInfo; have h5 := still_sizeOf; (repeat' (with_reducible first | exact still_pure _ | exact still_stuck _ | exact still_goPanic _ | exact still_unsupported _ | intro _ | exact still_program | exact still_load _ _ | exact still_store _ _ _ | exact still_newObj _ | exact still_getObj _ | exact still_setObj _ _ | exact still_choose _ | exact still_shape _ | exact still_freeze _ _ | exact still_frozen _ | exact still_askRoom _ | exact still_noRoom | assumption | (apply_assumption; done) | refine Still.bind' ?_ ?_ | refine Still.map' _ ?_ | refine Still.forIn_array _ ?_ _ _ | refine Still.forIn_range _ ?_ _ _ | refine Still.foldlM _ ?_ _ _ | refine Still.mapM_array _ ?_ _ | dsimp only | refine Still.ite (fun _ => ?_) (fun _ => ?_) | split | exact trivial))
theorem still_fieldPlace (a : Addr) (f : Field) : Still (fieldPlace a f) := by unfold fieldPlace; have h0 := still_partAt; have h1 := still_byteOf; have h3 := still_sizeOf; (repeat' (with_reducible first | exact still_pure _ | exact still_stuck _ | exact still_goPanic _ | exact still_unsupported _ | intro _ | exact still_program | exact still_load _ _ | exact still_store _ _ _ | exact still_newObj _ | exact still_getObj _ | exact still_setObj _ _ | exact still_choose _ | exact still_shape _ | exact still_freeze _ _ | exact still_frozen _ | exact still_askRoom _ | exact still_noRoom | assumption | (apply_assumption; done) | refine Still.bind' ?_ ?_ | refine Still.map' _ ?_ | refine Still.forIn_array _ ?_ _ _ | refine Still.forIn_range _ ?_ _ _ | refine Still.foldlM _ ?_ _ _ | refine Still.mapM_array _ ?_ _ | dsimp only | refine Still.ite (fun _ => ?_) (fun _ => ?_) | split | exact trivial))
theorem still_fieldAt (t : TypeId) (a : Value) (f : Nat) : Still (Instr.fieldAt t a f) := by unfold Instr.fieldAt; have h1 := still_sureAddr; have h2 := still_underlying; have h3 := still_fieldPlace; (repeat' (with_reducible first | exact still_pure _ | exact still_stuck _ | exact still_goPanic _ | exact still_unsupported _ | intro _ | exact still_program | exact still_load _ _ | exact still_store _ _ _ | exact still_newObj _ | exact still_getObj _ | exact still_setObj _ _ | exact still_choose _ | exact still_shape _ | exact still_freeze _ _ | exact still_frozen _ | exact still_askRoom _ | exact still_noRoom | assumption | (apply_assumption; done) | refine Still.bind' ?_ ?_ | refine Still.map' _ ?_ | refine Still.forIn_array _ ?_ _ _ | refine Still.forIn_range _ ?_ _ _ | refine Still.foldlM _ ?_ _ _ | refine Still.mapM_array _ ?_ _ | dsimp only | refine Still.ite (fun _ => ?_) (fun _ => ?_) | split | exact trivial))
theorem still_indexAt (t : TypeId) (a v : Value) : Still (Instr.indexAt t a v) := by unfold Instr.indexAt; have h0 := still_asIntOf; have h1 := still_sureAddr; have h2 := still_underlying; have h3 := still_sizeOf; have h4 := @still_boundsPanic Value; (repeat' (with_reducible first | exact still_pure _ | exact still_stuck _ | exact still_goPanic _ | exact still_unsupported _ | intro _ | exact still_program | exact still_load _ _ | exact still_store _ _ _ | exact still_newObj _ | exact still_getObj _ | exact still_setObj _ _ | exact still_choose _ | exact still_shape _ | exact still_freeze _ _ | exact still_frozen _ | exact still_askRoom _ | exact still_noRoom | assumption | (apply_assumption; done) | refine Still.bind' ?_ ?_ | refine Still.map' _ ?_ | refine Still.forIn_array _ ?_ _ _ | refine Still.forIn_range _ ?_ _ _ | refine Still.foldlM _ ?_ _ _ | refine Still.mapM_array _ ?_ _ | dsimp only | refine Still.ite (fun _ => ?_) (fun _ => ?_) | split | exact trivial))
theorem still_index (t : TypeId) (a v : Value) : Still (Instr.index t a v) := by unfold Instr.index; have h0 := still_asIntOf; have h2 := still_underlying; have h3 := still_sizeOf; have h4 := @still_boundsPanic Value; have h5 := still_part; (repeat' (with_reducible first | exact still_pure _ | exact still_stuck _ | exact still_goPanic _ | exact still_unsupported _ | intro _ | exact still_program | exact still_load _ _ | exact still_store _ _ _ | exact still_newObj _ | exact still_getObj _ | exact still_setObj _ _ | exact still_choose _ | exact still_shape _ | exact still_freeze _ _ | exact still_frozen _ | exact still_askRoom _ | exact still_noRoom | assumption | (apply_assumption; done) | refine Still.bind' ?_ ?_ | refine Still.map' _ ?_ | refine Still.forIn_array _ ?_ _ _ | refine Still.forIn_range _ ?_ _ _ | refine Still.foldlM _ ?_ _ _ | refine Still.mapM_array _ ?_ _ | dsimp only | refine Still.ite (fun _ => ?_) (fun _ => ?_) | split | exact trivial))
theorem still_extract (a : Value) (i : Nat) : Still (Instr.extract a i) := by unfold Instr.extract; (repeat' (with_reducible first | exact still_pure _ | exact still_stuck _ | exact still_goPanic _ | exact still_unsupported _ | intro _ | exact still_program | exact still_load _ _ | exact still_store _ _ _ | exact still_newObj _ | exact still_getObj _ | exact still_setObj _ _ | exact still_choose _ | exact still_shape _ | exact still_freeze _ _ | exact still_frozen _ | exact still_askRoom _ | exact still_noRoom | assumption | (apply_assumption; done) | refine Still.bind' ?_ ?_ | refine Still.map' _ ?_ | refine Still.forIn_array _ ?_ _ _ | refine Still.forIn_range _ ?_ _ _ | refine Still.foldlM _ ?_ _ _ | refine Still.mapM_array _ ?_ _ | dsimp only | refine Still.ite (fun _ => ?_) (fun _ => ?_) | split | exact trivial))
theorem still_field (t : TypeId) (a : Value) (i : Nat) : Still (Instr.field t a i) := by unfold Instr.field; have h2 := still_underlying; have h5 := still_part; have h6 := still_asAgg; (repeat' (with_reducible first | exact still_pure _ | exact still_stuck _ | exact still_goPanic _ | exact still_unsupported _ | intro _ | exact still_program | exact still_load _ _ | exact still_store _ _ _ | exact still_newObj _ | exact still_getObj _ | exact still_setObj _ _ | exact still_choose _ | exact still_shape _ | exact still_freeze _ _ | exact still_frozen _ | exact still_askRoom _ | exact still_noRoom | assumption | (apply_assumption; done) | refine Still.bind' ?_ ?_ | refine Still.map' _ ?_ | refine Still.forIn_array _ ?_ _ _ | refine Still.forIn_range _ ?_ _ _ | refine Still.foldlM _ ?_ _ _ | refine Still.mapM_array _ ?_ _ | dsimp only | refine Still.ite (fun _ => ?_) (fun _ => ?_) | split | exact trivial))
theorem still_build (t : TypeId) (p : Array (Nat × Value)) : Still (Instr.build t p) := by unfold Instr.build; have h1 := still_zeroValue; have h2 := still_underlying; have h3 := still_sizeOf; (repeat' (with_reducible first | exact still_pure _ | exact still_stuck _ | exact still_goPanic _ | exact still_unsupported _ | intro _ | exact still_program | exact still_load _ _ | exact still_store _ _ _ | exact still_newObj _ | exact still_getObj _ | exact still_setObj _ _ | exact still_choose _ | exact still_shape _ | exact still_freeze _ _ | exact still_frozen _ | exact still_askRoom _ | exact still_noRoom | assumption | (apply_assumption; done) | refine Still.bind' ?_ ?_ | refine Still.map' _ ?_ | refine Still.forIn_array _ ?_ _ _ | refine Still.forIn_range _ ?_ _ _ | refine Still.foldlM _ ?_ _ _ | refine Still.mapM_array _ ?_ _ | dsimp only | refine Still.ite (fun _ => ?_) (fun _ => ?_) | split | exact trivial))
theorem still_buildSlice (t : TypeId) (n : Nat) (p : Array (Nat × Value)) : Still (Instr.buildSlice t n p) := by unfold Instr.buildSlice; have h1 := still_zeroValue; have h2 := still_underlying; have h3 := still_sizeOf; have h4 := still_newRow; (repeat' (with_reducible first | exact still_pure _ | exact still_stuck _ | exact still_goPanic _ | exact still_unsupported _ | intro _ | exact still_program | exact still_load _ _ | exact still_store _ _ _ | exact still_newObj _ | exact still_getObj _ | exact still_setObj _ _ | exact still_choose _ | exact still_shape _ | exact still_freeze _ _ | exact still_frozen _ | exact still_askRoom _ | exact still_noRoom | assumption | (apply_assumption; done) | refine Still.bind' ?_ ?_ | refine Still.map' _ ?_ | refine Still.forIn_array _ ?_ _ _ | refine Still.forIn_range _ ?_ _ _ | refine Still.foldlM _ ?_ _ _ | refine Still.mapM_array _ ?_ _ | dsimp only | refine Still.ite (fun _ => ?_) (fun _ => ?_) | split | exact trivial))
theorem still_makeSlice (t : TypeId) (a b : Value) : Still (Instr.makeSlice t a b) := by unfold Instr.makeSlice; have h1 := still_zeroValue; have h2 := still_underlying; have h3 := still_sizeOf; have h4 := still_newRow; have h5 := still_asInt; have h6 := still_typeInfo; have h7 := @still_runtimePanic; (repeat' (with_reducible first | exact still_pure _ | exact still_stuck _ | exact still_goPanic _ | exact still_unsupported _ | intro _ | exact still_program | exact still_load _ _ | exact still_store _ _ _ | exact still_newObj _ | exact still_getObj _ | exact still_setObj _ _ | exact still_choose _ | exact still_shape _ | exact still_freeze _ _ | exact still_frozen _ | exact still_askRoom _ | exact still_noRoom | assumption | (apply_assumption; done) | refine Still.bind' ?_ ?_ | refine Still.map' _ ?_ | refine Still.forIn_array _ ?_ _ _ | refine Still.forIn_range _ ?_ _ _ | refine Still.foldlM _ ?_ _ _ | refine Still.mapM_array _ ?_ _ | dsimp only | refine Still.ite (fun _ => ?_) (fun _ => ?_) | split | exact trivial))
theorem still_sliceBound (x : Value) (y : Nat) (c : BoundsCode) : Still (Instr.sliceBound x y c) := by unfold Instr.sliceBound; have h1 := still_asIntOf; have h2 := @still_boundsPanic Nat; (repeat' (with_reducible first | exact still_pure _ | exact still_stuck _ | exact still_goPanic _ | exact still_unsupported _ | intro _ | exact still_program | exact still_load _ _ | exact still_store _ _ _ | exact still_newObj _ | exact still_getObj _ | exact still_setObj _ _ | exact still_choose _ | exact still_shape _ | exact still_freeze _ _ | exact still_frozen _ | exact still_askRoom _ | exact still_noRoom | assumption | (apply_assumption; done) | refine Still.bind' ?_ ?_ | refine Still.map' _ ?_ | refine Still.forIn_array _ ?_ _ _ | refine Still.forIn_range _ ?_ _ _ | refine Still.foldlM _ ?_ _ _ | refine Still.mapM_array _ ?_ _ | dsimp only | refine Still.ite (fun _ => ?_) (fun _ => ?_) | split | exact trivial))
theorem still_sliceBounds (s : Bool) (l c : Nat) (a b d : Option Value) : Still (Instr.sliceBounds s l c a b d) := by unfold Instr.sliceBounds; have h1 := still_sliceBound; (repeat' (with_reducible first | exact still_pure _ | exact still_stuck _ | exact still_goPanic _ | exact still_unsupported _ | intro _ | exact still_program | exact still_load _ _ | exact still_store _ _ _ | exact still_newObj _ | exact still_getObj _ | exact still_setObj _ _ | exact still_choose _ | exact still_shape _ | exact still_freeze _ _ | exact still_frozen _ | exact still_askRoom _ | exact still_noRoom | assumption | (apply_assumption; done) | refine Still.bind' ?_ ?_ | refine Still.map' _ ?_ | refine Still.forIn_array _ ?_ _ _ | refine Still.forIn_range _ ?_ _ _ | refine Still.foldlM _ ?_ _ _ | refine Still.mapM_array _ ?_ _ | dsimp only | refine Still.ite (fun _ => ?_) (fun _ => ?_) | split | exact trivial))
theorem still_slice (t : TypeId) (x : Value) (a b c : Option Value) : Still (Instr.slice t x a b c) := by unfold Instr.slice; have h1 := still_sliceBounds; have h2 := still_underlying; have h3 := still_sizeOf; have h4 := still_asAddr; (repeat' (with_reducible first | exact still_pure _ | exact still_stuck _ | exact still_goPanic _ | exact still_unsupported _ | intro _ | exact still_program | exact still_load _ _ | exact still_store _ _ _ | exact still_newObj _ | exact still_getObj _ | exact still_setObj _ _ | exact still_choose _ | exact still_shape _ | exact still_freeze _ _ | exact still_frozen _ | exact still_askRoom _ | exact still_noRoom | assumption | (apply_assumption; done) | refine Still.bind' ?_ ?_ | refine Still.map' _ ?_ | refine Still.forIn_array _ ?_ _ _ | refine Still.forIn_range _ ?_ _ _ | refine Still.foldlM _ ?_ _ _ | refine Still.mapM_array _ ?_ _ | dsimp only | refine Still.ite (fun _ => ?_) (fun _ => ?_) | split | exact trivial))
theorem still_len (t : Array TypeId) (u : TypeId) (a : Array Value) : Still (Builtin.len_ t u a) := by unfold Builtin.len_; have h2 := still_underlying; (repeat' (with_reducible first | exact still_pure _ | exact still_stuck _ | exact still_goPanic _ | exact still_unsupported _ | intro _ | exact still_program | exact still_load _ _ | exact still_store _ _ _ | exact still_newObj _ | exact still_getObj _ | exact still_setObj _ _ | exact still_choose _ | exact still_shape _ | exact still_freeze _ _ | exact still_frozen _ | exact still_askRoom _ | exact still_noRoom | assumption | (apply_assumption; done) | refine Still.bind' ?_ ?_ | refine Still.map' _ ?_ | refine Still.forIn_array _ ?_ _ _ | refine Still.forIn_range _ ?_ _ _ | refine Still.foldlM _ ?_ _ _ | refine Still.mapM_array _ ?_ _ | dsimp only | refine Still.ite (fun _ => ?_) (fun _ => ?_) | split | exact trivial))
theorem still_holdsCells (a : Addr) (n : Nat) : Still (Builtin.holdsCells a n) := by unfold Builtin.holdsCells; (repeat' (with_reducible first | exact still_pure _ | exact still_stuck _ | exact still_goPanic _ | exact still_unsupported _ | intro _ | exact still_program | exact still_load _ _ | exact still_store _ _ _ | exact still_newObj _ | exact still_getObj _ | exact still_setObj _ _ | exact still_choose _ | exact still_shape _ | exact still_freeze _ _ | exact still_frozen _ | exact still_askRoom _ | exact still_noRoom | assumption | (apply_assumption; done) | refine Still.bind' ?_ ?_ | refine Still.map' _ ?_ | refine Still.forIn_array _ ?_ _ _ | refine Still.forIn_range _ ?_ _ _ | refine Still.foldlM _ ?_ _ _ | refine Still.mapM_array _ ?_ _ | dsimp only | refine Still.ite (fun _ => ?_) (fun _ => ?_) | split | exact trivial))
theorem still_mayShare (a b c : Nat) (d : Option Addr) (x : Value) : Still (Builtin.mayShare a b c d x) := by unfold Builtin.mayShare; have h := still_holdsCells; (repeat' (with_reducible first | exact still_pure _ | exact still_stuck _ | exact still_goPanic _ | exact still_unsupported _ | intro _ | exact still_program | exact still_load _ _ | exact still_store _ _ _ | exact still_newObj _ | exact still_getObj _ | exact still_setObj _ _ | exact still_choose _ | exact still_shape _ | exact still_freeze _ _ | exact still_frozen _ | exact still_askRoom _ | exact still_noRoom | assumption | (apply_assumption; done) | refine Still.bind' ?_ ?_ | refine Still.map' _ ?_ | refine Still.forIn_array _ ?_ _ _ | refine Still.forIn_range _ ?_ _ _ | refine Still.foldlM _ ?_ _ _ | refine Still.mapM_array _ ?_ _ | dsimp only | refine Still.ite (fun _ => ?_) (fun _ => ?_) | split | exact trivial))
theorem still_lenOf (x : Value) : Still (Builtin.lenOf x) := by unfold Builtin.lenOf; (repeat' (with_reducible first | exact still_pure _ | exact still_stuck _ | exact still_goPanic _ | exact still_unsupported _ | intro _ | exact still_program | exact still_load _ _ | exact still_store _ _ _ | exact still_newObj _ | exact still_getObj _ | exact still_setObj _ _ | exact still_choose _ | exact still_shape _ | exact still_freeze _ _ | exact still_frozen _ | exact still_askRoom _ | exact still_noRoom | assumption | (apply_assumption; done) | refine Still.bind' ?_ ?_ | refine Still.map' _ ?_ | refine Still.forIn_array _ ?_ _ _ | refine Still.forIn_range _ ?_ _ _ | refine Still.foldlM _ ?_ _ _ | refine Still.mapM_array _ ?_ _ | dsimp only | refine Still.ite (fun _ => ?_) (fun _ => ?_) | split | exact trivial))
theorem still_firstCells (a b : Nat) (x : Value) : Still (Builtin.firstCells a b x) := by unfold Builtin.firstCells; have h := still_loadCells; (repeat' (with_reducible first | exact still_pure _ | exact still_stuck _ | exact still_goPanic _ | exact still_unsupported _ | intro _ | exact still_program | exact still_load _ _ | exact still_store _ _ _ | exact still_newObj _ | exact still_getObj _ | exact still_setObj _ _ | exact still_choose _ | exact still_shape _ | exact still_freeze _ _ | exact still_frozen _ | exact still_askRoom _ | exact still_noRoom | assumption | (apply_assumption; done) | refine Still.bind' ?_ ?_ | refine Still.map' _ ?_ | refine Still.forIn_array _ ?_ _ _ | refine Still.forIn_range _ ?_ _ _ | refine Still.foldlM _ ?_ _ _ | refine Still.mapM_array _ ?_ _ | dsimp only | refine Still.ite (fun _ => ?_) (fun _ => ?_) | split | exact trivial))
set_option maxHeartbeats 1000000 in
theorem still_append (t : Array TypeId) (u : TypeId) (a : Array Value) : Still (Builtin.append_ t u a) := by
  unfold Builtin.append_
  have h1 := still_zeroValue; have h2 := still_underlying; have h3 := still_sizeOf; have h4 := still_newRow; have h5 := still_asInt; have h6 := still_typeInfo; have h7 := @still_runtimePanic; have h8 := still_mayShare; have h9 := still_lenOf; have h10 := still_firstCells; have h11 := still_storeCells
  (repeat' (first | exact trivial | exact still_stuck _ | exact still_unsupported _ | exact still_goPanic _ | intro _ | exact still_program | exact still_load _ _ | exact still_store _ _ _ | exact still_newObj _ | exact still_getObj _ | exact still_setObj _ _ | exact still_choose _ | exact still_shape _ | exact still_freeze _ _ | exact still_frozen _ | exact still_askRoom _ | exact still_noRoom | assumption | (apply_assumption; done) | refine Still.bind' ?_ ?_ | refine Still.map' _ ?_ | refine Still.forIn_array _ ?_ _ _ | refine Still.forIn_range _ ?_ _ _ | refine Still.foldlM _ ?_ _ _ | refine Still.mapM_array _ ?_ _ | (extract_lets jp; refine (fun (h : ∀ a, Still (jp a)) => ?_) (fun a => ?_); clear_value jp; rotate_left; dsimp only [jp]; rotate_left) | dsimp only | refine Still.ite (fun _ => ?_) (fun _ => ?_) | split))
set_option maxHeartbeats 1000000
theorem still_numberAt (r : Nat) : Still (numberAt r) := by unfold numberAt; (repeat' (with_reducible first | exact still_pure _ | exact still_stuck _ | exact still_goPanic _ | exact still_unsupported _ | intro _ | exact still_program | exact still_load _ _ | exact still_store _ _ _ | exact still_newObj _ | exact still_getObj _ | exact still_setObj _ _ | exact still_choose _ | exact still_shape _ | exact still_freeze _ _ | exact still_frozen _ | exact still_askRoom _ | exact still_noRoom | assumption | (apply_assumption; done) | refine Still.bind' ?_ ?_ | refine Still.map' _ ?_ | refine Still.forIn_array _ ?_ _ _ | refine Still.forIn_range _ ?_ _ _ | refine Still.foldlM _ ?_ _ _ | refine Still.mapM_array _ ?_ _ | dsimp only | refine Still.ite (fun _ => ?_) (fun _ => ?_) | split | exact trivial))
theorem still_asNumber (a : Addr) (l : Bool) : Still (asNumber a l) := by unfold asNumber; (repeat' (with_reducible first | exact still_pure _ | exact still_stuck _ | exact still_goPanic _ | exact still_unsupported _ | intro _ | exact still_program | exact still_load _ _ | exact still_store _ _ _ | exact still_newObj _ | exact still_getObj _ | exact still_setObj _ _ | exact still_choose _ | exact still_shape _ | exact still_freeze _ _ | exact still_frozen _ | exact still_askRoom _ | exact still_noRoom | assumption | (apply_assumption; done) | refine Still.bind' ?_ ?_ | refine Still.map' _ ?_ | refine Still.forIn_array _ ?_ _ _ | refine Still.forIn_range _ ?_ _ _ | refine Still.foldlM _ ?_ _ _ | refine Still.mapM_array _ ?_ _ | dsimp only | refine Still.ite (fun _ => ?_) (fun _ => ?_) | split | exact trivial))
theorem still_behindNumber (a : Addr) : Still (behindNumber a) := by unfold behindNumber; have h := still_numberAt; (repeat' (with_reducible first | exact still_pure _ | exact still_stuck _ | exact still_goPanic _ | exact still_unsupported _ | intro _ | exact still_program | exact still_load _ _ | exact still_store _ _ _ | exact still_newObj _ | exact still_getObj _ | exact still_setObj _ _ | exact still_choose _ | exact still_shape _ | exact still_freeze _ _ | exact still_frozen _ | exact still_askRoom _ | exact still_noRoom | assumption | (apply_assumption; done) | refine Still.bind' ?_ ?_ | refine Still.map' _ ?_ | refine Still.forIn_array _ ?_ _ _ | refine Still.forIn_range _ ?_ _ _ | refine Still.foldlM _ ?_ _ _ | refine Still.mapM_array _ ?_ _ | dsimp only | refine Still.ite (fun _ => ?_) (fun _ => ?_) | split | exact trivial))
theorem still_markStringish (a : Addr) : Still (markStringish a) := by unfold markStringish; (repeat' (with_reducible first | exact still_pure _ | exact still_stuck _ | exact still_goPanic _ | exact still_unsupported _ | intro _ | exact still_program | exact still_load _ _ | exact still_store _ _ _ | exact still_newObj _ | exact still_getObj _ | exact still_setObj _ _ | exact still_choose _ | exact still_shape _ | exact still_freeze _ _ | exact still_frozen _ | exact still_askRoom _ | exact still_noRoom | assumption | (apply_assumption; done) | refine Still.bind' ?_ ?_ | refine Still.map' _ ?_ | refine Still.forIn_array _ ?_ _ _ | refine Still.forIn_range _ ?_ _ _ | refine Still.foldlM _ ?_ _ _ | refine Still.mapM_array _ ?_ _ | dsimp only | refine Still.ite (fun _ => ?_) (fun _ => ?_) | split | exact trivial))
theorem still_stringish (a : Addr) : Still (stringish a) := by unfold stringish; (repeat' (with_reducible first | exact still_pure _ | exact still_stuck _ | exact still_goPanic _ | exact still_unsupported _ | intro _ | exact still_program | exact still_load _ _ | exact still_store _ _ _ | exact still_newObj _ | exact still_getObj _ | exact still_setObj _ _ | exact still_choose _ | exact still_shape _ | exact still_freeze _ _ | exact still_frozen _ | exact still_askRoom _ | exact still_noRoom | assumption | (apply_assumption; done) | refine Still.bind' ?_ ?_ | refine Still.map' _ ?_ | refine Still.forIn_array _ ?_ _ _ | refine Still.forIn_range _ ?_ _ _ | refine Still.foldlM _ ?_ _ _ | refine Still.mapM_array _ ?_ _ | dsimp only | refine Still.ite (fun _ => ?_) (fun _ => ?_) | split | exact trivial))
theorem still_mayBeOne (a b : Addr) : Still (mayBeOne a b) := by unfold mayBeOne; have h := still_stringish; (repeat' (with_reducible first | exact still_pure _ | exact still_stuck _ | exact still_goPanic _ | exact still_unsupported _ | intro _ | exact still_program | exact still_load _ _ | exact still_store _ _ _ | exact still_newObj _ | exact still_getObj _ | exact still_setObj _ _ | exact still_choose _ | exact still_shape _ | exact still_freeze _ _ | exact still_frozen _ | exact still_askRoom _ | exact still_noRoom | assumption | (apply_assumption; done) | refine Still.bind' ?_ ?_ | refine Still.map' _ ?_ | refine Still.forIn_array _ ?_ _ _ | refine Still.forIn_range _ ?_ _ _ | refine Still.foldlM _ ?_ _ _ | refine Still.mapM_array _ ?_ _ | dsimp only | refine Still.ite (fun _ => ?_) (fun _ => ?_) | split | exact trivial))
theorem still_sameAddr (a b : Addr) : Still (sameAddr a b) := by unfold sameAddr; have h := still_mayBeOne; have h0 := still_noView; (repeat' (with_reducible first | exact still_pure _ | exact still_stuck _ | exact still_goPanic _ | exact still_unsupported _ | intro _ | exact still_program | exact still_load _ _ | exact still_store _ _ _ | exact still_newObj _ | exact still_getObj _ | exact still_setObj _ _ | exact still_choose _ | exact still_shape _ | exact still_freeze _ _ | exact still_frozen _ | exact still_askRoom _ | exact still_noRoom | assumption | (apply_assumption; done) | refine Still.bind' ?_ ?_ | refine Still.map' _ ?_ | refine Still.forIn_array _ ?_ _ _ | refine Still.forIn_range _ ?_ _ _ | refine Still.foldlM _ ?_ _ _ | refine Still.mapM_array _ ?_ _ | dsimp only | refine Still.ite (fun _ => ?_) (fun _ => ?_) | split | exact trivial))
theorem still_samePointer (a b : Option Addr) : Still (samePointer a b) := by unfold samePointer; have h := still_sameAddr; have h2 := still_cellsIn; have h3 := still_viewAt; have h4 := still_behindNumber; have h5 := still_numberAt; (repeat' (with_reducible first | exact still_pure _ | exact still_stuck _ | exact still_goPanic _ | exact still_unsupported _ | intro _ | exact still_program | exact still_load _ _ | exact still_store _ _ _ | exact still_newObj _ | exact still_getObj _ | exact still_setObj _ _ | exact still_choose _ | exact still_shape _ | exact still_freeze _ _ | exact still_frozen _ | exact still_askRoom _ | exact still_noRoom | assumption | (apply_assumption; done) | refine Still.bind' ?_ ?_ | refine Still.map' _ ?_ | refine Still.forIn_array _ ?_ _ _ | refine Still.forIn_range _ ?_ _ _ | refine Still.foldlM _ ?_ _ _ | refine Still.mapM_array _ ?_ _ | dsimp only | refine Still.ite (fun _ => ?_) (fun _ => ?_) | split | exact trivial))
theorem still_twoPlaces (a b : Addr) : Still (Op.twoPlaces a b) := by unfold Op.twoPlaces; have h := still_byteOf; (repeat' (with_reducible first | exact still_pure _ | exact still_stuck _ | exact still_goPanic _ | exact still_unsupported _ | intro _ | exact still_program | exact still_load _ _ | exact still_store _ _ _ | exact still_newObj _ | exact still_getObj _ | exact still_setObj _ _ | exact still_choose _ | exact still_shape _ | exact still_freeze _ _ | exact still_frozen _ | exact still_askRoom _ | exact still_noRoom | assumption | (apply_assumption; done) | refine Still.bind' ?_ ?_ | refine Still.map' _ ?_ | refine Still.forIn_array _ ?_ _ _ | refine Still.forIn_range _ ?_ _ _ | refine Still.foldlM _ ?_ _ _ | refine Still.mapM_array _ ?_ _ | dsimp only | refine Still.ite (fun _ => ?_) (fun _ => ?_) | split | exact trivial))
theorem still_addrSub (k : IntKind) (a b : Addr) : Still (Op.addrSub k a b) := by unfold Op.addrSub; have h := still_twoPlaces; (repeat' (with_reducible first | exact still_pure _ | exact still_stuck _ | exact still_goPanic _ | exact still_unsupported _ | intro _ | exact still_program | exact still_load _ _ | exact still_store _ _ _ | exact still_newObj _ | exact still_getObj _ | exact still_setObj _ _ | exact still_choose _ | exact still_shape _ | exact still_freeze _ _ | exact still_frozen _ | exact still_askRoom _ | exact still_noRoom | assumption | (apply_assumption; done) | refine Still.bind' ?_ ?_ | refine Still.map' _ ?_ | refine Still.forIn_array _ ?_ _ _ | refine Still.forIn_range _ ?_ _ _ | refine Still.foldlM _ ?_ _ _ | refine Still.mapM_array _ ?_ _ | dsimp only | refine Still.ite (fun _ => ?_) (fun _ => ?_) | split | exact trivial))
theorem still_addrCmp (k : BinOp) (a b : Addr) : Still (Op.addrCmp k a b) := by unfold Op.addrCmp; have h := still_twoPlaces; (repeat' (with_reducible first | exact still_pure _ | exact still_stuck _ | exact still_goPanic _ | exact still_unsupported _ | intro _ | exact still_program | exact still_load _ _ | exact still_store _ _ _ | exact still_newObj _ | exact still_getObj _ | exact still_setObj _ _ | exact still_choose _ | exact still_shape _ | exact still_freeze _ _ | exact still_frozen _ | exact still_askRoom _ | exact still_noRoom | assumption | (apply_assumption; done) | refine Still.bind' ?_ ?_ | refine Still.map' _ ?_ | refine Still.forIn_array _ ?_ _ _ | refine Still.forIn_range _ ?_ _ _ | refine Still.foldlM _ ?_ _ _ | refine Still.mapM_array _ ?_ _ | dsimp only | refine Still.ite (fun _ => ?_) (fun _ => ?_) | split | exact trivial))
theorem still_addrMod (k : IntKind) (a : Addr) (n : Int) : Still (Op.addrMod k a n) := by unfold Op.addrMod; have h := still_byteOf; have h2 := still_typeInfo; (repeat' (with_reducible first | exact still_pure _ | exact still_stuck _ | exact still_goPanic _ | exact still_unsupported _ | intro _ | exact still_program | exact still_load _ _ | exact still_store _ _ _ | exact still_newObj _ | exact still_getObj _ | exact still_setObj _ _ | exact still_choose _ | exact still_shape _ | exact still_freeze _ _ | exact still_frozen _ | exact still_askRoom _ | exact still_noRoom | assumption | (apply_assumption; done) | refine Still.bind' ?_ ?_ | refine Still.map' _ ?_ | refine Still.forIn_array _ ?_ _ _ | refine Still.forIn_range _ ?_ _ _ | refine Still.foldlM _ ?_ _ _ | refine Still.mapM_array _ ?_ _ | dsimp only | refine Still.ite (fun _ => ?_) (fun _ => ?_) | split | exact trivial))
theorem still_floatArith (op : BinOp) (k : FloatKind) (x y : Nat) : Still (Op.floatArith op k x y) := by unfold Op.floatArith; (repeat' (with_reducible first | exact still_pure _ | exact still_stuck _ | exact still_goPanic _ | exact still_unsupported _ | intro _ | exact still_program | exact still_load _ _ | exact still_store _ _ _ | exact still_newObj _ | exact still_getObj _ | exact still_setObj _ _ | exact still_choose _ | exact still_shape _ | exact still_freeze _ _ | exact still_frozen _ | exact still_askRoom _ | exact still_noRoom | assumption | (apply_assumption; done) | refine Still.bind' ?_ ?_ | refine Still.map' _ ?_ | refine Still.forIn_array _ ?_ _ _ | refine Still.forIn_range _ ?_ _ _ | refine Still.foldlM _ ?_ _ _ | refine Still.mapM_array _ ?_ _ | dsimp only | refine Still.ite (fun _ => ?_) (fun _ => ?_) | split | exact trivial))
theorem still_floatCmp (op : BinOp) (k : FloatKind) (x y : Nat) : Still (Op.floatCmp op k x y) := by unfold Op.floatCmp; (repeat' (with_reducible first | exact still_pure _ | exact still_stuck _ | exact still_goPanic _ | exact still_unsupported _ | intro _ | exact still_program | exact still_load _ _ | exact still_store _ _ _ | exact still_newObj _ | exact still_getObj _ | exact still_setObj _ _ | exact still_choose _ | exact still_shape _ | exact still_freeze _ _ | exact still_frozen _ | exact still_askRoom _ | exact still_noRoom | assumption | (apply_assumption; done) | refine Still.bind' ?_ ?_ | refine Still.map' _ ?_ | refine Still.forIn_array _ ?_ _ _ | refine Still.forIn_range _ ?_ _ _ | refine Still.foldlM _ ?_ _ _ | refine Still.mapM_array _ ?_ _ | dsimp only | refine Still.ite (fun _ => ?_) (fun _ => ?_) | split | exact trivial))
theorem still_floatToFloat (k : FloatKind) (x : Nat) (k' : FloatKind) : Still (Conv.floatToFloat k x k') := by unfold Conv.floatToFloat; (repeat' (with_reducible first | exact still_pure _ | exact still_stuck _ | exact still_goPanic _ | exact still_unsupported _ | intro _ | exact still_program | exact still_load _ _ | exact still_store _ _ _ | exact still_newObj _ | exact still_getObj _ | exact still_setObj _ _ | exact still_choose _ | exact still_shape _ | exact still_freeze _ _ | exact still_frozen _ | exact still_askRoom _ | exact still_noRoom | assumption | (apply_assumption; done) | refine Still.bind' ?_ ?_ | refine Still.map' _ ?_ | refine Still.forIn_array _ ?_ _ _ | refine Still.forIn_range _ ?_ _ _ | refine Still.foldlM _ ?_ _ _ | refine Still.mapM_array _ ?_ _ | dsimp only | refine Still.ite (fun _ => ?_) (fun _ => ?_) | split | exact trivial))
theorem still_floatToInt (k : FloatKind) (x : Nat) (k' : IntKind) : Still (Conv.floatToInt k x k') := by unfold Conv.floatToInt; (repeat' (with_reducible first | exact still_pure _ | exact still_stuck _ | exact still_goPanic _ | exact still_unsupported _ | intro _ | exact still_program | exact still_load _ _ | exact still_store _ _ _ | exact still_newObj _ | exact still_getObj _ | exact still_setObj _ _ | exact still_choose _ | exact still_shape _ | exact still_freeze _ _ | exact still_frozen _ | exact still_askRoom _ | exact still_noRoom | assumption | (apply_assumption; done) | refine Still.bind' ?_ ?_ | refine Still.map' _ ?_ | refine Still.forIn_array _ ?_ _ _ | refine Still.forIn_range _ ?_ _ _ | refine Still.foldlM _ ?_ _ _ | refine Still.mapM_array _ ?_ _ | dsimp only | refine Still.ite (fun _ => ?_) (fun _ => ?_) | split | exact trivial))
theorem still_carith (op : BinOp) (k : FloatKind) (x y : Nat) : Still (Op.Complex.arith op k x y) := by unfold Op.Complex.arith; have h := still_floatArith; (repeat' (with_reducible first | exact still_pure _ | exact still_stuck _ | exact still_goPanic _ | exact still_unsupported _ | intro _ | exact still_program | exact still_load _ _ | exact still_store _ _ _ | exact still_newObj _ | exact still_getObj _ | exact still_setObj _ _ | exact still_choose _ | exact still_shape _ | exact still_freeze _ _ | exact still_frozen _ | exact still_askRoom _ | exact still_noRoom | assumption | (apply_assumption; done) | refine Still.bind' ?_ ?_ | refine Still.map' _ ?_ | refine Still.forIn_array _ ?_ _ _ | refine Still.forIn_range _ ?_ _ _ | refine Still.foldlM _ ?_ _ _ | refine Still.mapM_array _ ?_ _ | dsimp only | refine Still.ite (fun _ => ?_) (fun _ => ?_) | split | exact trivial))
theorem still_ccmp (op : BinOp) (k : FloatKind) (x y : Nat) : Still (Op.Complex.cmp op k x y) := by unfold Op.Complex.cmp; have h := still_floatCmp; have h2 := still_asBool; (repeat' (with_reducible first | exact still_pure _ | exact still_stuck _ | exact still_goPanic _ | exact still_unsupported _ | intro _ | exact still_program | exact still_load _ _ | exact still_store _ _ _ | exact still_newObj _ | exact still_getObj _ | exact still_setObj _ _ | exact still_choose _ | exact still_shape _ | exact still_freeze _ _ | exact still_frozen _ | exact still_askRoom _ | exact still_noRoom | assumption | (apply_assumption; done) | refine Still.bind' ?_ ?_ | refine Still.map' _ ?_ | refine Still.forIn_array _ ?_ _ _ | refine Still.forIn_range _ ?_ _ _ | refine Still.foldlM _ ?_ _ _ | refine Still.mapM_array _ ?_ _ | dsimp only | refine Still.ite (fun _ => ?_) (fun _ => ?_) | split | exact trivial))
theorem still_cconv (k : FloatKind) (x : Nat) (k' : FloatKind) : Still (Op.Complex.conv k x k') := by unfold Op.Complex.conv; have h := still_floatToFloat; (repeat' (with_reducible first | exact still_pure _ | exact still_stuck _ | exact still_goPanic _ | exact still_unsupported _ | intro _ | exact still_program | exact still_load _ _ | exact still_store _ _ _ | exact still_newObj _ | exact still_getObj _ | exact still_setObj _ _ | exact still_choose _ | exact still_shape _ | exact still_freeze _ _ | exact still_frozen _ | exact still_askRoom _ | exact still_noRoom | assumption | (apply_assumption; done) | refine Still.bind' ?_ ?_ | refine Still.map' _ ?_ | refine Still.forIn_array _ ?_ _ _ | refine Still.forIn_range _ ?_ _ _ | refine Still.foldlM _ ?_ _ _ | refine Still.mapM_array _ ?_ _ | dsimp only | refine Still.ite (fun _ => ?_) (fun _ => ?_) | split | exact trivial))
theorem still_product (a b c d : Nat) : Still (Op.Complex.product a b c d) := by unfold Op.Complex.product Op.Complex.add Op.Complex.sub Op.Complex.mul; have h := still_carith; (repeat' (with_reducible first | exact still_pure _ | exact still_stuck _ | exact still_goPanic _ | exact still_unsupported _ | intro _ | exact still_program | exact still_load _ _ | exact still_store _ _ _ | exact still_newObj _ | exact still_getObj _ | exact still_setObj _ _ | exact still_choose _ | exact still_shape _ | exact still_freeze _ _ | exact still_frozen _ | exact still_askRoom _ | exact still_noRoom | assumption | (apply_assumption; done) | refine Still.bind' ?_ ?_ | refine Still.map' _ ?_ | refine Still.forIn_array _ ?_ _ _ | refine Still.forIn_range _ ?_ _ _ | refine Still.foldlM _ ?_ _ _ | refine Still.mapM_array _ ?_ _ | dsimp only | refine Still.ite (fun _ => ?_) (fun _ => ?_) | split | exact trivial))
theorem still_corrected (s a b c d : Nat) : Still (Op.Complex.corrected s a b c d) := by unfold Op.Complex.corrected Op.Complex.add Op.Complex.sub Op.Complex.mul; have h := still_carith; (repeat' (with_reducible first | exact still_pure _ | exact still_stuck _ | exact still_goPanic _ | exact still_unsupported _ | intro _ | exact still_program | exact still_load _ _ | exact still_store _ _ _ | exact still_newObj _ | exact still_getObj _ | exact still_setObj _ _ | exact still_choose _ | exact still_shape _ | exact still_freeze _ _ | exact still_frozen _ | exact still_askRoom _ | exact still_noRoom | assumption | (apply_assumption; done) | refine Still.bind' ?_ ?_ | refine Still.map' _ ?_ | refine Still.forIn_array _ ?_ _ _ | refine Still.forIn_range _ ?_ _ _ | refine Still.foldlM _ ?_ _ _ | refine Still.mapM_array _ ?_ _ | dsimp only | refine Still.ite (fun _ => ?_) (fun _ => ?_) | split | exact trivial))
theorem still_quotient (a b c d : Nat) : Still (Op.Complex.quotient a b c d) := by
  unfold Op.Complex.quotient Op.Complex.add Op.Complex.sub Op.Complex.mul Op.Complex.quo
  have h := still_carith; have h2 := still_ccmp; have h3 := still_corrected; (repeat' (with_reducible first | exact still_pure _ | exact still_stuck _ | exact still_goPanic _ | exact still_unsupported _ | intro _ | exact still_program | exact still_load _ _ | exact still_store _ _ _ | exact still_newObj _ | exact still_getObj _ | exact still_setObj _ _ | exact still_choose _ | exact still_shape _ | exact still_freeze _ _ | exact still_frozen _ | exact still_askRoom _ | exact still_noRoom | assumption | (apply_assumption; done) | refine Still.bind' ?_ ?_ | refine Still.map' _ ?_ | refine Still.forIn_array _ ?_ _ _ | refine Still.forIn_range _ ?_ _ _ | refine Still.foldlM _ ?_ _ _ | refine Still.mapM_array _ ?_ _ | dsimp only | refine Still.ite (fun _ => ?_) (fun _ => ?_) | split | exact trivial))
theorem still_complexOp (op : BinOp) (k : FloatKind) (a b c d : Nat) : Still (Op.complexOp op k a b c d) := by
  have h := still_carith; have h2 := still_ccmp; have h3 := still_cconv; have h4 := still_product; have h5 := still_quotient
  cases op
  case mul =>
    exact Still.bind' (h3 _ _ _) fun _ => Still.bind' (h3 _ _ _) fun _ => Still.bind' (h3 _ _ _) fun _ => Still.bind' (h3 _ _ _) fun _ =>
      Still.bind' (h4 _ _ _ _) fun _ => Still.bind' (h3 _ _ _) fun _ => Still.bind' (h3 _ _ _) fun _ => trivial
  case quo =>
    exact Still.bind' (h3 _ _ _) fun _ => Still.bind' (h3 _ _ _) fun _ => Still.bind' (h3 _ _ _) fun _ => Still.bind' (h3 _ _ _) fun _ =>
      Still.bind' (h5 _ _ _ _) fun _ => Still.bind' (h3 _ _ _) fun _ => Still.bind' (h3 _ _ _) fun _ => trivial
  case add => exact Still.bind' (h _ _ _ _) fun _ => Still.bind' (h _ _ _ _) fun _ => trivial
  case sub => exact Still.bind' (h _ _ _ _) fun _ => Still.bind' (h _ _ _ _) fun _ => trivial
  case eql => unfold Op.complexOp; (repeat' (with_reducible first | exact still_pure _ | exact still_stuck _ | exact still_goPanic _ | exact still_unsupported _ | intro _ | exact still_program | exact still_load _ _ | exact still_store _ _ _ | exact still_newObj _ | exact still_getObj _ | exact still_setObj _ _ | exact still_choose _ | exact still_shape _ | exact still_freeze _ _ | exact still_frozen _ | exact still_askRoom _ | exact still_noRoom | assumption | (apply_assumption; done) | refine Still.bind' ?_ ?_ | refine Still.map' _ ?_ | refine Still.forIn_array _ ?_ _ _ | refine Still.forIn_range _ ?_ _ _ | refine Still.foldlM _ ?_ _ _ | refine Still.mapM_array _ ?_ _ | dsimp only | refine Still.ite (fun _ => ?_) (fun _ => ?_) | split | exact trivial))
  case neq => unfold Op.complexOp; (repeat' (with_reducible first | exact still_pure _ | exact still_stuck _ | exact still_goPanic _ | exact still_unsupported _ | intro _ | exact still_program | exact still_load _ _ | exact still_store _ _ _ | exact still_newObj _ | exact still_getObj _ | exact still_setObj _ _ | exact still_choose _ | exact still_shape _ | exact still_freeze _ _ | exact still_frozen _ | exact still_askRoom _ | exact still_noRoom | assumption | (apply_assumption; done) | refine Still.bind' ?_ ?_ | refine Still.map' _ ?_ | refine Still.forIn_array _ ?_ _ _ | refine Still.forIn_range _ ?_ _ _ | refine Still.foldlM _ ?_ _ _ | refine Still.mapM_array _ ?_ _ | dsimp only | refine Still.ite (fun _ => ?_) (fun _ => ?_) | split | exact trivial))
  all_goals exact still_stuck _
theorem still_stringOp (op : BinOp) (x y : ByteArray) : Still (Op.stringOp op x y) := by unfold Op.stringOp; (repeat' (with_reducible first | exact still_pure _ | exact still_stuck _ | exact still_goPanic _ | exact still_unsupported _ | intro _ | exact still_program | exact still_load _ _ | exact still_store _ _ _ | exact still_newObj _ | exact still_getObj _ | exact still_setObj _ _ | exact still_choose _ | exact still_shape _ | exact still_freeze _ _ | exact still_frozen _ | exact still_askRoom _ | exact still_noRoom | assumption | (apply_assumption; done) | refine Still.bind' ?_ ?_ | refine Still.map' _ ?_ | refine Still.forIn_array _ ?_ _ _ | refine Still.forIn_range _ ?_ _ _ | refine Still.foldlM _ ?_ _ _ | refine Still.mapM_array _ ?_ _ | dsimp only | refine Still.ite (fun _ => ?_) (fun _ => ?_) | split | exact trivial))
theorem still_shift (op : BinOp) (k : IntKind) (x : Int) (k' : IntKind) (y : Int) : Still (Op.shift op k x k' y) := by unfold Op.shift; have h := @still_runtimePanic Value; (repeat' (with_reducible first | exact still_pure _ | exact still_stuck _ | exact still_goPanic _ | exact still_unsupported _ | intro _ | exact still_program | exact still_load _ _ | exact still_store _ _ _ | exact still_newObj _ | exact still_getObj _ | exact still_setObj _ _ | exact still_choose _ | exact still_shape _ | exact still_freeze _ _ | exact still_frozen _ | exact still_askRoom _ | exact still_noRoom | assumption | (apply_assumption; done) | refine Still.bind' ?_ ?_ | refine Still.map' _ ?_ | refine Still.forIn_array _ ?_ _ _ | refine Still.forIn_range _ ?_ _ _ | refine Still.foldlM _ ?_ _ _ | refine Still.mapM_array _ ?_ _ | dsimp only | refine Still.ite (fun _ => ?_) (fun _ => ?_) | split | exact trivial))
theorem still_intDiv (op : BinOp) (k : IntKind) (x y : Int) : Still (Op.intDiv op k x y) := by unfold Op.intDiv; have h := @still_runtimePanic Value; (repeat' (with_reducible first | exact still_pure _ | exact still_stuck _ | exact still_goPanic _ | exact still_unsupported _ | intro _ | exact still_program | exact still_load _ _ | exact still_store _ _ _ | exact still_newObj _ | exact still_getObj _ | exact still_setObj _ _ | exact still_choose _ | exact still_shape _ | exact still_freeze _ _ | exact still_frozen _ | exact still_askRoom _ | exact still_noRoom | assumption | (apply_assumption; done) | refine Still.bind' ?_ ?_ | refine Still.map' _ ?_ | refine Still.forIn_array _ ?_ _ _ | refine Still.forIn_range _ ?_ _ _ | refine Still.foldlM _ ?_ _ _ | refine Still.mapM_array _ ?_ _ | dsimp only | refine Still.ite (fun _ => ?_) (fun _ => ?_) | split | exact trivial))
theorem still_intBits (op : BinOp) (k : IntKind) (x y : Int) : Still (Op.intBits op k x y) := by unfold Op.intBits; (repeat' (with_reducible first | exact still_pure _ | exact still_stuck _ | exact still_goPanic _ | exact still_unsupported _ | intro _ | exact still_program | exact still_load _ _ | exact still_store _ _ _ | exact still_newObj _ | exact still_getObj _ | exact still_setObj _ _ | exact still_choose _ | exact still_shape _ | exact still_freeze _ _ | exact still_frozen _ | exact still_askRoom _ | exact still_noRoom | assumption | (apply_assumption; done) | refine Still.bind' ?_ ?_ | refine Still.map' _ ?_ | refine Still.forIn_array _ ?_ _ _ | refine Still.forIn_range _ ?_ _ _ | refine Still.foldlM _ ?_ _ _ | refine Still.mapM_array _ ?_ _ | dsimp only | refine Still.ite (fun _ => ?_) (fun _ => ?_) | split | exact trivial))
theorem still_intCmp (op : BinOp) (x y : Int) : Still (Op.intCmp op x y) := by unfold Op.intCmp; (repeat' (with_reducible first | exact still_pure _ | exact still_stuck _ | exact still_goPanic _ | exact still_unsupported _ | intro _ | exact still_program | exact still_load _ _ | exact still_store _ _ _ | exact still_newObj _ | exact still_getObj _ | exact still_setObj _ _ | exact still_choose _ | exact still_shape _ | exact still_freeze _ _ | exact still_frozen _ | exact still_askRoom _ | exact still_noRoom | assumption | (apply_assumption; done) | refine Still.bind' ?_ ?_ | refine Still.map' _ ?_ | refine Still.forIn_array _ ?_ _ _ | refine Still.forIn_range _ ?_ _ _ | refine Still.foldlM _ ?_ _ _ | refine Still.mapM_array _ ?_ _ | dsimp only | refine Still.ite (fun _ => ?_) (fun _ => ?_) | split | exact trivial))
theorem still_intArith (op : BinOp) (k : IntKind) (x y : Int) : Still (Op.intArith op k x y) := by unfold Op.intArith; (repeat' (with_reducible first | exact still_pure _ | exact still_stuck _ | exact still_goPanic _ | exact still_unsupported _ | intro _ | exact still_program | exact still_load _ _ | exact still_store _ _ _ | exact still_newObj _ | exact still_getObj _ | exact still_setObj _ _ | exact still_choose _ | exact still_shape _ | exact still_freeze _ _ | exact still_frozen _ | exact still_askRoom _ | exact still_noRoom | assumption | (apply_assumption; done) | refine Still.bind' ?_ ?_ | refine Still.map' _ ?_ | refine Still.forIn_array _ ?_ _ _ | refine Still.forIn_range _ ?_ _ _ | refine Still.foldlM _ ?_ _ _ | refine Still.mapM_array _ ?_ _ | dsimp only | refine Still.ite (fun _ => ?_) (fun _ => ?_) | split | exact trivial))
theorem still_unary (op : UnOp) (x : Value) : Still (Op.unary op x) := by unfold Op.unary; have h := still_intArith; have h2 := still_intBits; (repeat' (with_reducible first | exact still_pure _ | exact still_stuck _ | exact still_goPanic _ | exact still_unsupported _ | intro _ | exact still_program | exact still_load _ _ | exact still_store _ _ _ | exact still_newObj _ | exact still_getObj _ | exact still_setObj _ _ | exact still_choose _ | exact still_shape _ | exact still_freeze _ _ | exact still_frozen _ | exact still_askRoom _ | exact still_noRoom | assumption | (apply_assumption; done) | refine Still.bind' ?_ ?_ | refine Still.map' _ ?_ | refine Still.forIn_array _ ?_ _ _ | refine Still.forIn_range _ ?_ _ _ | refine Still.foldlM _ ?_ _ _ | refine Still.mapM_array _ ?_ _ | dsimp only | refine Still.ite (fun _ => ?_) (fun _ => ?_) | split | exact trivial))
theorem still_unsafeAdd (t : Array TypeId) (u : TypeId) (a : Array Value) : Still (Builtin.unsafeAdd_ t u a) := by
  unfold Builtin.unsafeAdd_
  have h := still_asInt; have h2 := still_viewAt
  obtain ⟨l⟩ := a
  rcases l with _ | ⟨x, _ | ⟨y, _ | _⟩⟩
  · first | exact trivial | exact rfl
  · cases x <;> first | exact trivial | exact rfl
  · cases x
    all_goals try first | exact trivial | exact rfl
    refine Still.bind' (h y) (fun n => ?_)
    (repeat' (with_reducible first | exact still_pure _ | exact still_stuck _ | exact still_goPanic _ | exact still_unsupported _ | intro _ | exact still_program | exact still_load _ _ | exact still_store _ _ _ | exact still_newObj _ | exact still_getObj _ | exact still_setObj _ _ | exact still_choose _ | exact still_shape _ | exact still_freeze _ _ | exact still_frozen _ | exact still_askRoom _ | exact still_noRoom | assumption | (apply_assumption; done) | refine Still.bind' ?_ ?_ | refine Still.map' _ ?_ | refine Still.forIn_array _ ?_ _ _ | refine Still.forIn_range _ ?_ _ _ | refine Still.foldlM _ ?_ _ _ | refine Still.mapM_array _ ?_ _ | dsimp only | refine Still.ite (fun _ => ?_) (fun _ => ?_) | split | exact trivial))
  · cases x <;> first | exact trivial | exact rfl
theorem still_movedNumber (t : TypeId) (x y : Value) : Still (movedNumber t x y) := by unfold movedNumber; have h := still_unsafeAdd; have h2 := still_behindNumber; have h3 := still_asNumber; have h4 := still_underlying; (repeat' (with_reducible first | exact still_pure _ | exact still_stuck _ | exact still_goPanic _ | exact still_unsupported _ | intro _ | exact still_program | exact still_load _ _ | exact still_store _ _ _ | exact still_newObj _ | exact still_getObj _ | exact still_setObj _ _ | exact still_choose _ | exact still_shape _ | exact still_freeze _ _ | exact still_frozen _ | exact still_askRoom _ | exact still_noRoom | assumption | (apply_assumption; done) | refine Still.bind' ?_ ?_ | refine Still.map' _ ?_ | refine Still.forIn_array _ ?_ _ _ | refine Still.forIn_range _ ?_ _ _ | refine Still.foldlM _ ?_ _ _ | refine Still.mapM_array _ ?_ _ | dsimp only | refine Still.ite (fun _ => ?_) (fun _ => ?_) | split | exact trivial))
theorem still_movedPointer (t : TypeId) (x y : Value) : Still (movedPointer t x y) := by unfold movedPointer; have h := still_unsafeAdd; have h2 := still_numberAt; (repeat' (with_reducible first | exact still_pure _ | exact still_stuck _ | exact still_goPanic _ | exact still_unsupported _ | intro _ | exact still_program | exact still_load _ _ | exact still_store _ _ _ | exact still_newObj _ | exact still_getObj _ | exact still_setObj _ _ | exact still_choose _ | exact still_shape _ | exact still_freeze _ _ | exact still_frozen _ | exact still_askRoom _ | exact still_noRoom | assumption | (apply_assumption; done) | refine Still.bind' ?_ ?_ | refine Still.map' _ ?_ | refine Still.forIn_array _ ?_ _ _ | refine Still.forIn_range _ ?_ _ _ | refine Still.foldlM _ ?_ _ _ | refine Still.mapM_array _ ?_ _ | dsimp only | refine Still.ite (fun _ => ?_) (fun _ => ?_) | split | exact trivial))
theorem still_equalIn : ∀ (d : Nat) (t : TypeId) (x y : Value), Still (Op.equalIn d t x y)
  | 0, t, x, y => rfl
  | d + 1, t, x, y => by
    unfold Op.equalIn
    have ih := still_equalIn d
    have h := still_underlying; have h2 := still_behindNumber; have h3 := still_byteOf; have h4 := still_typeInfo; have h5 := still_sizeOf; have h6 := still_sameAddr; have h7 := still_samePointer; have h8 := @still_runtimePanic Bool; have h9 := still_part; have h10 := still_typeStr
    (repeat' (with_reducible first | exact still_pure _ | exact still_stuck _ | exact still_goPanic _ | exact still_unsupported _ | intro _ | exact still_program | exact still_load _ _ | exact still_store _ _ _ | exact still_newObj _ | exact still_getObj _ | exact still_setObj _ _ | exact still_choose _ | exact still_shape _ | exact still_freeze _ _ | exact still_frozen _ | exact still_askRoom _ | exact still_noRoom | assumption | (apply_assumption; done) | refine Still.bind' ?_ ?_ | refine Still.map' _ ?_ | refine Still.forIn_array _ ?_ _ _ | refine Still.forIn_range _ ?_ _ _ | refine Still.foldlM _ ?_ _ _ | refine Still.mapM_array _ ?_ _ | dsimp only | refine Still.ite (fun _ => ?_) (fun _ => ?_) | split | exact trivial))
theorem still_equal (t : TypeId) (x y : Value) : Still (Op.equal t x y) := still_equalIn _ _ _ _
theorem still_eqGuardIn : ∀ (d : Nat) (t : TypeId) (x y : Value), Still (Op.eqGuardIn d t x y)
  | 0, t, x, y => rfl
  | d + 1, t, x, y => by
    unfold Op.eqGuardIn
    have ih := still_eqGuardIn d
    have h := still_underlying; have h5 := still_sizeOf; have h9 := still_part
    (repeat' (with_reducible first | exact still_pure _ | exact still_stuck _ | exact still_goPanic _ | exact still_unsupported _ | intro _ | exact still_program | exact still_load _ _ | exact still_store _ _ _ | exact still_newObj _ | exact still_getObj _ | exact still_setObj _ _ | exact still_choose _ | exact still_shape _ | exact still_freeze _ _ | exact still_frozen _ | exact still_askRoom _ | exact still_noRoom | assumption | (apply_assumption; done) | refine Still.bind' ?_ ?_ | refine Still.map' _ ?_ | refine Still.forIn_array _ ?_ _ _ | refine Still.forIn_range _ ?_ _ _ | refine Still.foldlM _ ?_ _ _ | refine Still.mapM_array _ ?_ _ | dsimp only | refine Still.ite (fun _ => ?_) (fun _ => ?_) | split | exact trivial))
theorem still_eqGuard (op : BinOp) (t : TypeId) (x y : Operand) (a b : Value) : Still (eqGuard op t x y a b) := by unfold eqGuard; have h := still_eqGuardIn Op.maxDepth; (repeat' (with_reducible first | exact still_pure _ | exact still_stuck _ | exact still_goPanic _ | exact still_unsupported _ | intro _ | exact still_program | exact still_load _ _ | exact still_store _ _ _ | exact still_newObj _ | exact still_getObj _ | exact still_setObj _ _ | exact still_choose _ | exact still_shape _ | exact still_freeze _ _ | exact still_frozen _ | exact still_askRoom _ | exact still_noRoom | assumption | (apply_assumption; done) | refine Still.bind' ?_ ?_ | refine Still.map' _ ?_ | refine Still.forIn_array _ ?_ _ _ | refine Still.forIn_range _ ?_ _ _ | refine Still.foldlM _ ?_ _ _ | refine Still.mapM_array _ ?_ _ | dsimp only | refine Still.ite (fun _ => ?_) (fun _ => ?_) | split | exact trivial))
theorem still_binOp (op : BinOp) (t : TypeId) (x y : Value) : Still (binOp op t x y) := by
  unfold binOp
  have h1 := still_shift; have h2 := still_intArith; have h3 := still_intDiv; have h4 := still_intBits; have h5 := still_intCmp; have h6 := still_floatArith; have h7 := still_floatCmp; have h8 := still_complexOp; have h9 := still_stringOp; have h10 := still_equal; have h11 := still_movedNumber; have h12 := still_movedPointer; have h13 := still_addrSub; have h14 := still_addrCmp; have h15 := still_addrMod; have h16 := still_behindNumber; have h17 := still_underlying
  (repeat' (with_reducible first | exact still_pure _ | exact still_stuck _ | exact still_goPanic _ | exact still_unsupported _ | intro _ | exact still_program | exact still_load _ _ | exact still_store _ _ _ | exact still_newObj _ | exact still_getObj _ | exact still_setObj _ _ | exact still_choose _ | exact still_shape _ | exact still_freeze _ _ | exact still_frozen _ | exact still_askRoom _ | exact still_noRoom | assumption | (apply_assumption; done) | refine Still.bind' ?_ ?_ | refine Still.map' _ ?_ | refine Still.forIn_array _ ?_ _ _ | refine Still.forIn_range _ ?_ _ _ | refine Still.foldlM _ ?_ _ _ | refine Still.mapM_array _ ?_ _ | dsimp only | refine Still.ite (fun _ => ?_) (fun _ => ?_) | split | exact trivial))
theorem still_min2 (x y : Value) : Still (Builtin.min2 x y) := by unfold Builtin.min2; have h := still_stringOp; have h2 := still_asBool; (repeat' (with_reducible first | exact still_pure _ | exact still_stuck _ | exact still_goPanic _ | exact still_unsupported _ | intro _ | exact still_program | exact still_load _ _ | exact still_store _ _ _ | exact still_newObj _ | exact still_getObj _ | exact still_setObj _ _ | exact still_choose _ | exact still_shape _ | exact still_freeze _ _ | exact still_frozen _ | exact still_askRoom _ | exact still_noRoom | assumption | (apply_assumption; done) | refine Still.bind' ?_ ?_ | refine Still.map' _ ?_ | refine Still.forIn_array _ ?_ _ _ | refine Still.forIn_range _ ?_ _ _ | refine Still.foldlM _ ?_ _ _ | refine Still.mapM_array _ ?_ _ | dsimp only | refine Still.ite (fun _ => ?_) (fun _ => ?_) | split | exact trivial))
theorem still_max2 (x y : Value) : Still (Builtin.max2 x y) := by unfold Builtin.max2; have h := still_stringOp; have h2 := still_asBool; (repeat' (with_reducible first | exact still_pure _ | exact still_stuck _ | exact still_goPanic _ | exact still_unsupported _ | intro _ | exact still_program | exact still_load _ _ | exact still_store _ _ _ | exact still_newObj _ | exact still_getObj _ | exact still_setObj _ _ | exact still_choose _ | exact still_shape _ | exact still_freeze _ _ | exact still_frozen _ | exact still_askRoom _ | exact still_noRoom | assumption | (apply_assumption; done) | refine Still.bind' ?_ ?_ | refine Still.map' _ ?_ | refine Still.forIn_array _ ?_ _ _ | refine Still.forIn_range _ ?_ _ _ | refine Still.foldlM _ ?_ _ _ | refine Still.mapM_array _ ?_ _ | dsimp only | refine Still.ite (fun _ => ?_) (fun _ => ?_) | split | exact trivial))
theorem still_min (t : Array TypeId) (u : TypeId) (a : Array Value) : Still (Builtin.min_ t u a) := by unfold Builtin.min_; have h := still_min2; (repeat' (with_reducible first | exact still_pure _ | exact still_stuck _ | exact still_goPanic _ | exact still_unsupported _ | intro _ | exact still_program | exact still_load _ _ | exact still_store _ _ _ | exact still_newObj _ | exact still_getObj _ | exact still_setObj _ _ | exact still_choose _ | exact still_shape _ | exact still_freeze _ _ | exact still_frozen _ | exact still_askRoom _ | exact still_noRoom | assumption | (apply_assumption; done) | refine Still.bind' ?_ ?_ | refine Still.map' _ ?_ | refine Still.forIn_array _ ?_ _ _ | refine Still.forIn_range _ ?_ _ _ | refine Still.foldlM _ ?_ _ _ | refine Still.mapM_array _ ?_ _ | dsimp only | refine Still.ite (fun _ => ?_) (fun _ => ?_) | split | exact trivial))
theorem still_max (t : Array TypeId) (u : TypeId) (a : Array Value) : Still (Builtin.max_ t u a) := by unfold Builtin.max_; have h := still_max2; (repeat' (with_reducible first | exact still_pure _ | exact still_stuck _ | exact still_goPanic _ | exact still_unsupported _ | intro _ | exact still_program | exact still_load _ _ | exact still_store _ _ _ | exact still_newObj _ | exact still_getObj _ | exact still_setObj _ _ | exact still_choose _ | exact still_shape _ | exact still_freeze _ _ | exact still_frozen _ | exact still_askRoom _ | exact still_noRoom | assumption | (apply_assumption; done) | refine Still.bind' ?_ ?_ | refine Still.map' _ ?_ | refine Still.forIn_array _ ?_ _ _ | refine Still.forIn_range _ ?_ _ _ | refine Still.foldlM _ ?_ _ _ | refine Still.mapM_array _ ?_ _ | dsimp only | refine Still.ite (fun _ => ?_) (fun _ => ?_) | split | exact trivial))
theorem still_sliceAt (t : TypeId) (x : Value) (a b c : Option Value) : Still (Instr.sliceAt t x a b c) := by unfold Instr.sliceAt; have h := still_slice; have h2 := still_sliceBounds; have h3 := still_sureAddr; have h4 := still_underlying; have h5 := still_sizeOf; (repeat' (with_reducible first | exact still_pure _ | exact still_stuck _ | exact still_goPanic _ | exact still_unsupported _ | intro _ | exact still_program | exact still_load _ _ | exact still_store _ _ _ | exact still_newObj _ | exact still_getObj _ | exact still_setObj _ _ | exact still_choose _ | exact still_shape _ | exact still_freeze _ _ | exact still_frozen _ | exact still_askRoom _ | exact still_noRoom | assumption | (apply_assumption; done) | refine Still.bind' ?_ ?_ | refine Still.map' _ ?_ | refine Still.forIn_array _ ?_ _ _ | refine Still.forIn_range _ ?_ _ _ | refine Still.foldlM _ ?_ _ _ | refine Still.mapM_array _ ?_ _ | dsimp only | refine Still.ite (fun _ => ?_) (fun _ => ?_) | split | exact trivial))
theorem still_makeInterface (t : TypeId) (x : Value) : Still (Instr.makeInterface t x) := by unfold Instr.makeInterface; have h4 := still_underlying; (repeat' (with_reducible first | exact still_pure _ | exact still_stuck _ | exact still_goPanic _ | exact still_unsupported _ | intro _ | exact still_program | exact still_load _ _ | exact still_store _ _ _ | exact still_newObj _ | exact still_getObj _ | exact still_setObj _ _ | exact still_choose _ | exact still_shape _ | exact still_freeze _ _ | exact still_frozen _ | exact still_askRoom _ | exact still_noRoom | assumption | (apply_assumption; done) | refine Still.bind' ?_ ?_ | refine Still.map' _ ?_ | refine Still.forIn_array _ ?_ _ _ | refine Still.forIn_range _ ?_ _ _ | refine Still.foldlM _ ?_ _ _ | refine Still.mapM_array _ ?_ _ | dsimp only | refine Still.ite (fun _ => ?_) (fun _ => ?_) | split | exact trivial))
theorem still_variablesAt (a : Addr) (u : TypeId) (n : Nat) : Still (variablesAt a u n) := by unfold variablesAt; (repeat' (with_reducible first | exact still_pure _ | exact still_stuck _ | exact still_goPanic _ | exact still_unsupported _ | intro _ | exact still_program | exact still_load _ _ | exact still_store _ _ _ | exact still_newObj _ | exact still_getObj _ | exact still_setObj _ _ | exact still_choose _ | exact still_shape _ | exact still_freeze _ _ | exact still_frozen _ | exact still_askRoom _ | exact still_noRoom | assumption | (apply_assumption; done) | refine Still.bind' ?_ ?_ | refine Still.map' _ ?_ | refine Still.forIn_array _ ?_ _ _ | refine Still.forIn_range _ ?_ _ _ | refine Still.foldlM _ ?_ _ _ | refine Still.mapM_array _ ?_ _ | dsimp only | refine Still.ite (fun _ => ?_) (fun _ => ?_) | split | exact trivial))
theorem still_seenAt (a : Addr) : Still (Conv.seenAt a) := by unfold Conv.seenAt; have h := still_viewAt; (repeat' (with_reducible first | exact still_pure _ | exact still_stuck _ | exact still_goPanic _ | exact still_unsupported _ | intro _ | exact still_program | exact still_load _ _ | exact still_store _ _ _ | exact still_newObj _ | exact still_getObj _ | exact still_setObj _ _ | exact still_choose _ | exact still_shape _ | exact still_freeze _ _ | exact still_frozen _ | exact still_askRoom _ | exact still_noRoom | assumption | (apply_assumption; done) | refine Still.bind' ?_ ?_ | refine Still.map' _ ?_ | refine Still.forIn_array _ ?_ _ _ | refine Still.forIn_range _ ?_ _ _ | refine Still.foldlM _ ?_ _ _ | refine Still.mapM_array _ ?_ _ | dsimp only | refine Still.ite (fun _ => ?_) (fun _ => ?_) | split | exact trivial))
theorem still_unsafePointer (s d : TypeId) (x : Value) : Still (Conv.unsafePointer s d x) := by
  unfold Conv.unsafePointer
  have h := still_underlying; have h1 := still_seenAt; have h2 := still_cellsIn; have h3 := still_sizeOf; have h4 := still_variablesAt; have h5 := still_asNumber
  (repeat' (with_reducible first | exact still_pure _ | exact still_stuck _ | exact still_goPanic _ | exact still_unsupported _ | intro _ | exact still_program | exact still_load _ _ | exact still_store _ _ _ | exact still_newObj _ | exact still_getObj _ | exact still_setObj _ _ | exact still_choose _ | exact still_shape _ | exact still_freeze _ _ | exact still_frozen _ | exact still_askRoom _ | exact still_noRoom | assumption | (apply_assumption; done) | refine Still.bind' ?_ ?_ | refine Still.map' _ ?_ | refine Still.forIn_array _ ?_ _ _ | refine Still.forIn_range _ ?_ _ _ | refine Still.foldlM _ ?_ _ _ | refine Still.mapM_array _ ?_ _ | dsimp only | refine Still.ite (fun _ => ?_) (fun _ => ?_) | split | exact trivial))
theorem still_complexToComplex (k : FloatKind) (a b : Nat) (k' : FloatKind) : Still (Conv.complexToComplex k a b k') := by unfold Conv.complexToComplex; have h := still_floatToFloat; (repeat' (with_reducible first | exact still_pure _ | exact still_stuck _ | exact still_goPanic _ | exact still_unsupported _ | intro _ | exact still_program | exact still_load _ _ | exact still_store _ _ _ | exact still_newObj _ | exact still_getObj _ | exact still_setObj _ _ | exact still_choose _ | exact still_shape _ | exact still_freeze _ _ | exact still_frozen _ | exact still_askRoom _ | exact still_noRoom | assumption | (apply_assumption; done) | refine Still.bind' ?_ ?_ | refine Still.map' _ ?_ | refine Still.forIn_array _ ?_ _ _ | refine Still.forIn_range _ ?_ _ _ | refine Still.foldlM _ ?_ _ _ | refine Still.mapM_array _ ?_ _ | dsimp only | refine Still.ite (fun _ => ?_) (fun _ => ?_) | split | exact trivial))
theorem still_bytesToString (x : Value) : Still (Conv.bytesToString x) := by unfold Conv.bytesToString; have h := still_loadCells; (repeat' (with_reducible first | exact still_pure _ | exact still_stuck _ | exact still_goPanic _ | exact still_unsupported _ | intro _ | exact still_program | exact still_load _ _ | exact still_store _ _ _ | exact still_newObj _ | exact still_getObj _ | exact still_setObj _ _ | exact still_choose _ | exact still_shape _ | exact still_freeze _ _ | exact still_frozen _ | exact still_askRoom _ | exact still_noRoom | assumption | (apply_assumption; done) | refine Still.bind' ?_ ?_ | refine Still.map' _ ?_ | refine Still.forIn_array _ ?_ _ _ | refine Still.forIn_range _ ?_ _ _ | refine Still.foldlM _ ?_ _ _ | refine Still.mapM_array _ ?_ _ | dsimp only | refine Still.ite (fun _ => ?_) (fun _ => ?_) | split | exact trivial))
theorem still_runesToString (x : Value) : Still (Conv.runesToString x) := by unfold Conv.runesToString; have h := still_loadCells; (repeat' (with_reducible first | exact still_pure _ | exact still_stuck _ | exact still_goPanic _ | exact still_unsupported _ | intro _ | exact still_program | exact still_load _ _ | exact still_store _ _ _ | exact still_newObj _ | exact still_getObj _ | exact still_setObj _ _ | exact still_choose _ | exact still_shape _ | exact still_freeze _ _ | exact still_frozen _ | exact still_askRoom _ | exact still_noRoom | assumption | (apply_assumption; done) | refine Still.bind' ?_ ?_ | refine Still.map' _ ?_ | refine Still.forIn_array _ ?_ _ _ | refine Still.forIn_range _ ?_ _ _ | refine Still.foldlM _ ?_ _ _ | refine Still.mapM_array _ ?_ _ | dsimp only | refine Still.ite (fun _ => ?_) (fun _ => ?_) | split | exact trivial))
theorem still_stringToBytes (e : TypeId) (s : ByteArray) : Still (Conv.stringToBytes e s) := by unfold Conv.stringToBytes; have h := still_newRow; have h2 := still_markStringish; (repeat' (with_reducible first | exact still_pure _ | exact still_stuck _ | exact still_goPanic _ | exact still_unsupported _ | intro _ | exact still_program | exact still_load _ _ | exact still_store _ _ _ | exact still_newObj _ | exact still_getObj _ | exact still_setObj _ _ | exact still_choose _ | exact still_shape _ | exact still_freeze _ _ | exact still_frozen _ | exact still_askRoom _ | exact still_noRoom | assumption | (apply_assumption; done) | refine Still.bind' ?_ ?_ | refine Still.map' _ ?_ | refine Still.forIn_array _ ?_ _ _ | refine Still.forIn_range _ ?_ _ _ | refine Still.foldlM _ ?_ _ _ | refine Still.mapM_array _ ?_ _ | dsimp only | refine Still.ite (fun _ => ?_) (fun _ => ?_) | split | exact trivial))
theorem still_stringToRunes (e : TypeId) (s : ByteArray) : Still (Conv.stringToRunes e s) := by unfold Conv.stringToRunes; have h := still_newRow; (repeat' (with_reducible first | exact still_pure _ | exact still_stuck _ | exact still_goPanic _ | exact still_unsupported _ | intro _ | exact still_program | exact still_load _ _ | exact still_store _ _ _ | exact still_newObj _ | exact still_getObj _ | exact still_setObj _ _ | exact still_choose _ | exact still_shape _ | exact still_freeze _ _ | exact still_frozen _ | exact still_askRoom _ | exact still_noRoom | assumption | (apply_assumption; done) | refine Still.bind' ?_ ?_ | refine Still.map' _ ?_ | refine Still.forIn_array _ ?_ _ _ | refine Still.forIn_range _ ?_ _ _ | refine Still.foldlM _ ?_ _ _ | refine Still.mapM_array _ ?_ _ | dsimp only | refine Still.ite (fun _ => ?_) (fun _ => ?_) | split | exact trivial))
theorem still_intToInt (k : IntKind) (n : Int) : Still (Conv.intToInt k n) := trivial
theorem still_intToFloat (k : FloatKind) (n : Int) : Still (Conv.intToFloat k n) := trivial
theorem still_intToString (n : Int) : Still (Conv.intToString n) := trivial
theorem still_convert (s d : TypeId) (x : Value) : Still (convert s d x) := by
  unfold convert
  have h := still_underlying; have h1 := still_intToInt; have h2 := still_intToFloat; have h3 := still_intToString; have h4 := still_floatToInt; have h5 := still_floatToFloat; have h6 := still_complexToComplex; have h7 := still_stringToBytes; have h8 := still_stringToRunes; have h9 := still_bytesToString; have h10 := still_runesToString; have h11 := still_unsafePointer; have h12 := still_markStringish
  (repeat' (with_reducible first | exact still_pure _ | exact still_stuck _ | exact still_goPanic _ | exact still_unsupported _ | intro _ | exact still_program | exact still_load _ _ | exact still_store _ _ _ | exact still_newObj _ | exact still_getObj _ | exact still_setObj _ _ | exact still_choose _ | exact still_shape _ | exact still_freeze _ _ | exact still_frozen _ | exact still_askRoom _ | exact still_noRoom | assumption | (apply_assumption; done) | refine Still.bind' ?_ ?_ | refine Still.map' _ ?_ | refine Still.forIn_array _ ?_ _ _ | refine Still.forIn_range _ ?_ _ _ | refine Still.foldlM _ ?_ _ _ | refine Still.mapM_array _ ?_ _ | dsimp only | refine Still.ite (fun _ => ?_) (fun _ => ?_) | split | exact trivial))
  all_goals exact trivial
theorem still_followBlind : ∀ (l : List FieldStep) (t : TypeId) (x : Option Value), Still (followBlind l t x)
  | [], t, x => trivial
  | s :: rest, t, x => by
    unfold followBlind
    have ih := still_followBlind rest
    have h := still_underlying; have h1 := still_part
    (repeat' (with_reducible first | exact still_pure _ | exact still_stuck _ | exact still_goPanic _ | exact still_unsupported _ | intro _ | exact still_program | exact still_load _ _ | exact still_store _ _ _ | exact still_newObj _ | exact still_getObj _ | exact still_setObj _ _ | exact still_choose _ | exact still_shape _ | exact still_freeze _ _ | exact still_frozen _ | exact still_askRoom _ | exact still_noRoom | assumption | (apply_assumption; done) | refine Still.bind' ?_ ?_ | refine Still.map' _ ?_ | refine Still.forIn_array _ ?_ _ _ | refine Still.forIn_range _ ?_ _ _ | refine Still.foldlM _ ?_ _ _ | refine Still.mapM_array _ ?_ _ | dsimp only | refine Still.ite (fun _ => ?_) (fun _ => ?_) | split | exact trivial))
theorem still_nilAhead : ∀ (n : Nat) (t : TypeId) (v : Value) (m : String), Still (nilAhead n t v m)
  | 0, t, v, m => trivial
  | n + 1, t, v, m => by
    unfold nilAhead
    have ih := still_nilAhead n
    have h := still_underlying; have h1 := still_followBlind; have h2 := still_typeInfo
    (repeat' (with_reducible first | exact still_pure _ | exact still_stuck _ | exact still_goPanic _ | exact still_unsupported _ | intro _ | exact still_program | exact still_load _ _ | exact still_store _ _ _ | exact still_newObj _ | exact still_getObj _ | exact still_setObj _ _ | exact still_choose _ | exact still_shape _ | exact still_freeze _ _ | exact still_frozen _ | exact still_askRoom _ | exact still_noRoom | assumption | (apply_assumption; done) | refine Still.bind' ?_ ?_ | refine Still.map' _ ?_ | refine Still.forIn_array _ ?_ _ _ | refine Still.forIn_range _ ?_ _ _ | refine Still.foldlM _ ?_ _ _ | refine Still.mapM_array _ ?_ _ | dsimp only | refine Still.ite (fun _ => ?_) (fun _ => ?_) | split | exact trivial))
/-- The operations that do nothing but work on cells. -/
def calm : Op → Bool
  | .move _ | .assign _ | .pick .. | .alloc _ | .box .. | .build .. | .buildSlice .. | .load .. | .store .. | .nilCheck _ | .binOp .. | .unOp .. | .convert .. | .makeInterface .. | .makeFunc .. | .makeSlice .. | .slice .. | .fieldAddr .. | .field .. | .indexAddr .. | .index .. | .extract .. => true
  | _ => false
theorem still_calm (ρ : Operand → Value) (o : Oper) (h : calm o.op = true) : Still (execOp ρ o) := by
  have p2 := still_asBool; have p3 := still_alloc; have p4 := still_box; have p5 := still_build; have p6 := still_buildSlice; have p7 := still_loadAt; have p8 := still_storeAt; have p9 := @still_runtimePanic Next; have p10 := still_nilAhead; have p11 := still_eqGuard; have p12 := still_binOp; have p13 := still_unary; have p14 := still_convert; have p15 := still_makeInterface; have p16 := still_makeSlice; have p17 := still_sliceAt; have p18 := still_fieldAt; have p19 := still_field; have p20 := still_indexAt; have p21 := still_index; have p22 := still_extract
  obtain ⟨reg, op, ty, pos⟩ := o
  cases op
  all_goals first
    | (exfalso; exact Bool.noConfusion h)
    | (unfold execOp; dsimp only; (repeat' (with_reducible first | exact still_pure _ | exact still_stuck _ | exact still_goPanic _ | exact still_unsupported _ | intro _ | exact still_program | exact still_load _ _ | exact still_store _ _ _ | exact still_newObj _ | exact still_getObj _ | exact still_setObj _ _ | exact still_choose _ | exact still_shape _ | exact still_freeze _ _ | exact still_frozen _ | exact still_askRoom _ | exact still_noRoom | assumption | (apply_assumption; done) | refine Still.bind' ?_ ?_ | refine Still.map' _ ?_ | refine Still.forIn_array _ ?_ _ _ | refine Still.forIn_range _ ?_ _ _ | refine Still.foldlM _ ?_ _ _ | refine Still.mapM_array _ ?_ _ | dsimp only | refine Still.ite (fun _ => ?_) (fun _ => ?_) | split | exact trivial)); done)
    | exact trivial
/-- The built-in functions that do nothing but work on cells. -/
def calmBuiltin : Builtin → Bool
  | .append | .len | .max | .min => true
  | _ => false
theorem still_builtin (b : Builtin) (t : Array TypeId) (u : TypeId) (c : Array Bool) (a : Array Value) (h : calmBuiltin b = true) : Still (builtin b t u c a) := by
  have h1 := still_append; have h2 := still_len; have h3 := still_max; have h4 := still_min
  cases b
  all_goals first
    | (exfalso; exact Bool.noConfusion h)
    | (unfold builtin; dsimp only; (repeat' (with_reducible first | exact still_pure _ | exact still_stuck _ | exact still_goPanic _ | exact still_unsupported _ | intro _ | exact still_program | exact still_load _ _ | exact still_store _ _ _ | exact still_newObj _ | exact still_getObj _ | exact still_setObj _ _ | exact still_choose _ | exact still_shape _ | exact still_freeze _ _ | exact still_frozen _ | exact still_askRoom _ | exact still_noRoom | assumption | (apply_assumption; done) | refine Still.bind' ?_ ?_ | refine Still.map' _ ?_ | refine Still.forIn_array _ ?_ _ _ | refine Still.forIn_range _ ?_ _ _ | refine Still.foldlM _ ?_ _ _ | refine Still.mapM_array _ ?_ _ | dsimp only | refine Still.ite (fun _ => ?_) (fun _ => ?_) | split | exact trivial)); done)
end Go.Proofs.Ytaeaacdjiijooaa.Lift

namespace Go.Proofs.Ytaeaacdjiijooaa.Lift
open Go Go.Conc
set_option linter.unusedVariables false
/-! ### what a run hands on -/
/-- Whatever the operation hands on has the property. -/
def Yields {α : Type} (Q : α → Prop) : Sem α → Prop
  | .pure a => Q a
  | .halt _ => True
  | .load _ _ k => ∀ v, Yields Q (k v)
  | .store _ _ _ k => Yields Q k
  | .new _ k => ∀ r, Yields Q (k r)
  | .shape _ k => ∀ r, Yields Q (k r)
  | .freeze _ _ k => Yields Q k
  | .frozen _ k => ∀ b, Yields Q (k b)
  | .getObj _ k => ∀ o, Yields Q (k o)
  | .setObj _ _ k => Yields Q k
  | .choose _ k => ∀ n, Yields Q (k n)
  | .sys _ k => ∀ r, Yields Q (k r)
  | .program k => ∀ p, Yields Q (k p)
  | .mark _ k => Yields Q k
theorem yields_bind {α β : Type} {Q : β → Prop} {s : Sem α} {f : α → Sem β} (hf : ∀ a, Yields Q (f a)) : Yields Q (s.bind f) := by
  induction s with
  | pure a => exact hf a
  | halt h => trivial
  | load m a k ih => exact fun v => ih v
  | store m a v k ih => exact ih
  | new o k ih => exact fun v => ih v
  | shape o k ih => exact fun v => ih v
  | freeze a n k ih => exact ih
  | frozen a k ih => exact fun v => ih v
  | getObj a k ih => exact fun v => ih v
  | setObj r o k ih => exact ih
  | choose q k ih => exact fun v => ih v
  | sys c k ih => exact fun v => ih v
  | program k ih => exact fun v => ih v
  | mark m k ih => exact ih
theorem yields_bind' {α β : Type} {Q : β → Prop} {s : Sem α} {f : α → Sem β} (hf : ∀ a, Yields Q (f a)) : Yields Q (s >>= f) := yields_bind hf
theorem yields_halt {α : Type} {Q : α → Prop} (h : Halt) : Yields Q (.halt h) := trivial
/-- A still run hands on what the operation yields, or stops with a panic or the run's end. -/
theorem yields_run {α : Type} {Q : α → Prop} (P : Program) (s : Sem α) (hs : Still s) (hy : Yields Q s) : ∀ (w : World) (es : Array Event) (a : α) (w' : World), (s.runT P w es).1 = .ok a w' → Q a := by
  induction s with
  | pure a => intro w es b w' hh; injection hh with e; exact e ▸ hy
  | halt a => intro w es b w' hh; cases hh
  | sys c k ih => exact hs.elim
  | program k ih => intro w es b w' hh; exact ih P (hs _) (hy _) w es b w' hh
  | choose q k ih =>
    intro w es b w' hh
    simp only [Sem.runT] at hh
    split at hh
    · exact ih _ (hs _) (hy _) _ _ b w' hh
    · exact ih _ (hs _) (hy _) _ _ b w' hh
  | mark m k ih => intro w es b w' hh; exact ih hs.2 hy w _ b w' hh
  | load m a k ih =>
    intro w es b w' hh
    simp only [Sem.runT] at hh
    split at hh
    · exact ih _ (hs _) (hy _) w _ b w' hh
    · split at hh
      · exact ih _ (hs _) (hy _) w _ b w' hh
      · cases hh
  | store m a v k ih =>
    intro w es b w' hh
    cases v
    all_goals simp only [Sem.runT] at hh
    all_goals first
      | (cases hh; done)
      | (split at hh
         · split at hh
           · cases hh
           · exact ih hs hy _ _ b w' hh
         · split at hh
           · exact ih hs hy _ _ b w' hh
           · cases hh)
  | new o k ih => intro w es b w' hh; exact ih _ (hs _) (hy _) _ _ b w' hh
  | shape r k ih => intro w es b w' hh; exact ih _ (hs _) (hy _) _ _ b w' hh
  | freeze a n k ih => intro w es b w' hh; exact ih hs hy _ _ b w' hh
  | frozen a k ih => intro w es b w' hh; exact ih _ (hs _) (hy _) _ _ b w' hh
  | getObj r k ih =>
    intro w es b w' hh
    simp only [Sem.runT] at hh
    split at hh
    · cases hh
    · exact ih _ (hs _) (hy _) _ _ b w' hh
    · cases hh
  | setObj r o k ih =>
    intro w es b w' hh
    simp only [Sem.runT] at hh
    split at hh
    · cases hh
    · exact ih hs hy _ _ b w' hh
    · cases hh
theorem noCell_mild (w : World) (a : Addr) (s : String) : mild (w.noCell a s) = true := by
  unfold World.noCell
  repeat' split
  all_goals rfl
theorem farLoad_mild (p : Program) (w : World) (a : Addr) (b : Bool) (h : Halt) (hh : w.farLoad p a b = .error h) : mild h = true := by
  unfold World.farLoad at hh
  split at hh
  · split at hh
    · cases hh
    · injection hh with e; rw [← e]; rfl
  · injection hh with e; rw [← e]; exact noCell_mild ..
theorem farStore_mild (p : Program) (w : World) (a : Addr) (v : Value) (b : Bool) (h : Halt) (hh : w.farStore p a v b = .error h) : mild h = true := by
  unfold World.farStore at hh
  split at hh
  · split at hh
    · cases hh
    · injection hh with e; rw [← e]; rfl
  · injection hh with e; rw [← e]; exact noCell_mild ..
/-- A still run's halt is a panic, or the run's end. -/
theorem runT_mild {α : Type} (P : Program) (s : Sem α) (hs : Still s) : ∀ (w : World) (es : Array Event) (h : Halt) (w' : World), (s.runT P w es).1 = .halt h w' → mild h = true := by
  induction s with
  | pure a => intro w es h w' hh; cases hh
  | halt a => intro w es h w' hh; injection hh with e; exact e ▸ hs
  | sys c k ih => exact hs.elim
  | program k ih => intro w es h w' hh; exact ih P (hs _) w es h w' hh
  | choose q k ih =>
    intro w es h w' hh
    simp only [Sem.runT] at hh
    split at hh
    · exact ih _ (hs _) _ _ h w' hh
    · exact ih _ (hs _) _ _ h w' hh
  | mark m k ih => intro w es h w' hh; exact ih hs.2 w _ h w' hh
  | load m a k ih =>
    intro w es h w' hh
    simp only [Sem.runT] at hh
    split at hh
    · exact ih _ (hs _) w _ h w' hh
    · split at hh
      · exact ih _ (hs _) w _ h w' hh
      · rename_i hf
        injection hh with e; exact e ▸ farLoad_mild _ _ _ _ _ hf
  | store m a v k ih =>
    intro w es h w' hh
    cases v
    all_goals simp only [Sem.runT] at hh
    all_goals first
      | (injection hh with e; exact e ▸ rfl)
      | (split at hh
         · split at hh
           · injection hh with e; exact e ▸ rfl
           · exact ih hs _ _ h w' hh
         · split at hh
           · exact ih hs _ _ h w' hh
           · rename_i hf
             injection hh with e; exact e ▸ farStore_mild _ _ _ _ _ _ hf)
  | new o k ih => intro w es h w' hh; exact ih _ (hs _) _ _ h w' hh
  | shape r k ih => intro w es h w' hh; exact ih _ (hs _) _ _ h w' hh
  | freeze a n k ih => intro w es h w' hh; exact ih hs _ _ h w' hh
  | frozen a k ih => intro w es h w' hh; exact ih _ (hs _) _ _ h w' hh
  | getObj r k ih =>
    intro w es h w' hh
    simp only [Sem.runT] at hh
    split at hh
    · injection hh with e; exact e ▸ rfl
    · exact ih _ (hs _) _ _ h w' hh
    · injection hh with e; exact e ▸ rfl
  | setObj r o k ih =>
    intro w es h w' hh
    simp only [Sem.runT] at hh
    split at hh
    · injection hh with e; exact e ▸ rfl
    · exact ih hs _ _ h w' hh
    · injection hh with e; exact e ▸ rfl
/-- The accesses that a still run lists bear no word but neutral ones. -/
def Ev (es : Array Event) : Prop := ∀ e ∈ es, ∀ m, e.loc = .mark m → Neutral m
theorem Ev.push {es : Array Event} {x : Event} (h : Ev es) (hx : ∀ m, x.loc = .mark m → Neutral m) : Ev (es.push x) := fun e he => by
  rcases Array.mem_push.1 he with h' | rfl
  · exact h e h'
  · exact hx
theorem Ev.app {es fs : Array Event} (h : Ev es) (h' : Ev fs) : Ev (es ++ fs) := fun e he => (Array.mem_append.1 he).elim (h e) (h' e)
theorem ev_nil : Ev #[] := fun e he => by simp at he
theorem ev_map {β : Type} (l : List β) (f : β → Event) (h : ∀ b m, (f b).loc ≠ .mark m) : Ev (l.toArray.map f) := fun e he m hm => by
  obtain ⟨x, _, rfl⟩ := Array.mem_map.1 he
  exact absurd hm (h x m)
theorem runT_ev {α : Type} (P : Program) (s : Sem α) (hs : Still s) : ∀ (w : World) (es : Array Event), Ev es → Ev (s.runT P w es).2 := by
  induction s with
  | pure a => intro w es h; exact h
  | halt a => intro w es h; exact h
  | sys c k ih => exact hs.elim
  | program k ih => intro w es h; exact ih P (hs _) w es h
  | choose q k ih =>
    intro w es h
    simp only [Sem.runT]
    split
    · exact ih _ (hs _) _ _ h
    · exact ih _ (hs _) _ _ h
  | mark m k ih => intro w es h; exact ih hs.2 w _ (h.push fun m' hm' => by injection hm' with e; exact e ▸ hs.1)
  | load m a k ih =>
    intro w es h
    simp only [Sem.runT]
    split
    · exact ih _ (hs _) w _ (h.push fun m' hm' => by cases hm')
    · split
      · exact ih _ (hs _) w _ (h.app (ev_map _ _ fun b m hm => by cases hm))
      · exact h
  | store m a v k ih =>
    intro w es h
    cases v
    all_goals simp only [Sem.runT]
    all_goals first
      | exact h
      | (split
         · split
           · exact h
           · exact ih hs _ _ (h.push fun m' hm' => by cases hm')
         · split
           · exact ih hs _ _ (h.app (ev_map _ _ fun b m hm => by cases hm))
           · exact h)
  | new o k ih => intro w es h; exact ih _ (hs _) _ _ h
  | shape r k ih => intro w es h; exact ih _ (hs _) _ _ h
  | freeze a n k ih => intro w es h; exact ih hs _ _ h
  | frozen a k ih => intro w es h; exact ih _ (hs _) _ _ h
  | getObj r k ih =>
    intro w es h
    simp only [Sem.runT]
    split
    · exact h
    · exact ih _ (hs _) _ _ (h.push fun m' hm' => by cases hm')
    · exact h
  | setObj r o k ih =>
    intro w es h
    simp only [Sem.runT]
    split
    · exact h
    · exact ih hs _ _ (h.push fun m' hm' => by cases hm')
    · exact h
theorem ev_seen {P : Program} {fn : FuncId} {es : Array Event} (h : Ev es) : Ev (seen P fn es) := fun e he => h e (mem_seen he)
/-- A value, or nothing. -/
def PlainN : Next → Prop
  | .value _ | .skip => True
  | _ => False
theorem yields_calm (ρ : Operand → Value) (o : Oper) (h : calm o.op = true) : Yields PlainN (execOp ρ o) := by
  obtain ⟨reg, op, ty, pos⟩ := o
  cases op
  all_goals first
    | (exfalso; exact Bool.noConfusion h)
    | exact yields_bind' (fun _ => trivial)
    | exact trivial
    | skip
  case nilCheck x =>
    unfold execOp
    dsimp only
    have hp : Yields PlainN (runtimePanic .nilDeref : Sem Next) := by
      unfold runtimePanic
      exact yields_bind' (fun p => by
        dsimp only
        repeat' (first | exact yields_bind' (fun _ => trivial) | exact trivial | split))
    repeat' (first | exact hp | exact yields_bind' (fun _ => yields_bind' (fun _ => by split <;> trivial)) | exact trivial | split)
theorem yields_builtin (b : Builtin) (t : Array TypeId) (u : TypeId) (c : Array Bool) (a : Array Value) (h : calmBuiltin b = true) : Yields PlainN (builtin b t u c a) := by
  cases b
  all_goals first
    | (exfalso; exact Bool.noConfusion h)
    | exact yields_bind' (fun _ => trivial)
    | exact trivial
end Go.Proofs.Ytaeaacdjiijooaa.Lift

namespace Go.Proofs.Ytaeaacdjiijooaa.Lift
open Go Go.Conc
set_option linter.unusedVariables false
/-! ### the check of the code -/
/-- S: the functions that are walked; fs: of each function the slots that hold functions; V: the functions that may be values; L: functions of which a frame may be walked from its midst. -/
structure Chk where
  S : FuncId → Bool
  fs : FuncId → List Nat
  V : FuncId → Bool
  L : FuncId → Bool
def okArg (C : Chk) (f : FuncId) : Option Operand → Bool
  | none => true
  | some (.tmp j) => (C.fs f).contains j
  | some (.func h) => C.V h
  | some _ => false
def freeDst (C : Chk) (f : FuncId) : Option Tmp → Bool
  | none => true
  | some d => !(C.fs f).contains d
def tameOp (C : Chk) (f : FuncId) (o : Oper) : Bool :=
  match o.op with
  | .call c => freeDst C f o.dst && (match c.callee with
      | .builtin b => calmBuiltin b
      | .invoke .. => false
      | .value (.func g) => C.S g && (C.fs g).all fun k => okArg C f c.args.toList[k]?
      | .value (.tmp j) => (C.fs f).contains j
      | .value _ => false)
  | .makeFunc fn _ _ => freeDst C f o.dst || (match fn with | .func h => C.V h | _ => false)
  | .move x => freeDst C f o.dst || okArg C f (some x)
  | op => calm op && freeDst C f o.dst
def tameCode (C : Chk) (f : FuncId) : Code → Bool
  | .region _ ops _ => ops.toList.all (tameOp C f)
  | .seq a b | .cond _ a b => tameCode C f a && tameCode C f b
  | .block _ c | .loop c | .scope c => tameCode C f c
  | .rangeFunc .. => false
  | _ => true
def tameItem (C : Chk) (f : FuncId) : Item → Bool
  | .code c => tameCode C f c
  | .inLoop c | .inScope c => tameCode C f c
  | .inRegion ops l => l.all fun i => (ops[i]?).all (tameOp C f)
  | .inBlock _ => true
  | _ => false
/-- A function among its values is one of V. -/
def goodV (C : Chk) (v : Value) : Prop := ∀ t a b, v = .func t a b → ∃ h, t = .func h ∧ C.V h = true
theorem goodV_undef (C : Chk) : goodV C undef := fun t a b h => by cases h
structure FrOk (C : Chk) (fr : Frame) : Prop where
  fnS : C.S fr.fn = true ∨ C.L fr.fn = true
  round : fr.roundOf = none
  defers : fr.defers = []
  kind : fr.kind = .normal
  todo : ∀ x ∈ fr.todo, tameItem C fr.fn x = true
  slots : ∀ k ∈ C.fs fr.fn, goodV C (fr.tmps.getD k undef)
structure ChkOk (P : Program) (C : Chk) : Prop where
  body : ∀ g, C.S g = true → ∃ fn body, P.funcs[g]? = some fn ∧ fn.name ≠ "runtime.NumGoroutine" ∧ fn.body = some body ∧ tameCode C g body = true
  val : ∀ g, C.V g = true → C.S g = true ∧ C.fs g = []
  steps : ∀ g, P.stepOf g = none
  frames : ∀ g, C.L g = true → ∃ fn body, P.funcs[g]? = some fn ∧ fn.body = some body
theorem ChkOk.entry {P : Program} {C : Chk} (h : ChkOk P C) {g : FuncId} (hg : C.S g = true ∨ C.L g = true) : ∃ fn body, P.funcs[g]? = some fn ∧ fn.body = some body := by
  rcases hg with hg | hg
  · obtain ⟨fn, body, h1, _, h2, _⟩ := h.body g hg
    exact ⟨fn, body, h1, h2⟩
  · exact h.frames g hg
section
variable {C : Chk} {f : FuncId}
theorem tame_exit {id : Nat} : ∀ {k k' : List Item}, exitTo id k = some k' → (∀ x ∈ k, tameItem C f x = true) → ∀ x ∈ k', tameItem C f x = true
  | [], k', h, _ => by cases h
  | y :: k, k', h, ht => by
    have rest : ∀ x ∈ k, tameItem C f x = true := fun x hx => ht x (List.mem_cons_of_mem _ hx)
    unfold exitTo at h
    split at h
    · rename_i id' k₂ he
      injection he with e1 e2
      subst e2
      split at h
      · injection h with e; subst e; exact rest
      · exact tame_exit h rest
    · rename_i x₂ k₂ _ he
      injection he with e1 e2
      subst e2
      exact tame_exit h rest
    · rename_i he; cases he
theorem tame_label {l : Nat} : ∀ {c r : Code}, findLabel c l = some r → tameCode C f c = true → tameCode C f r = true
  | .seq a b, r, h, ht => by
    simp only [tameCode, Bool.and_eq_true] at ht
    unfold findLabel at h
    cases ha : findLabel a l with
    | some x =>
      rw [ha] at h
      injection h with e
      subst e
      simp only [tameCode, Bool.and_eq_true]
      exact ⟨tame_label ha ht.1, ht.2⟩
    | none =>
      rw [ha] at h
      exact tame_label h ht.2
  | .label l', r, h, ht => by
    unfold findLabel at h
    split at h
    · injection h with e; subst e; rfl
    · cases h
  | .skip, r, h, ht => by cases h
  | .region .., r, h, ht => by cases h
  | .cond .., r, h, ht => by cases h
  | .block .., r, h, ht => by cases h
  | .loop .., r, h, ht => by cases h
  | .rangeFunc .., r, h, ht => by cases h
  | .exit .., r, h, ht => by cases h
  | .scope .., r, h, ht => by cases h
  | .goto .., r, h, ht => by cases h
  | .ret, r, h, ht => by cases h
  | .refuse .., r, h, ht => by cases h
theorem tame_goto {l : Nat} : ∀ {k k' : List Item}, gotoIn l k = some k' → (∀ x ∈ k, tameItem C f x = true) → ∀ x ∈ k', tameItem C f x = true
  | [], k', h, _ => by cases h
  | y :: k, k', h, ht => by
    have rest : ∀ x ∈ k, tameItem C f x = true := fun x hx => ht x (List.mem_cons_of_mem _ hx)
    have hy := ht y (List.mem_cons_self ..)
    unfold gotoIn at h
    split at h
    · rename_i body k₂ he
      injection he with e1 e2
      subst e1 e2
      split at h
      · rename_i r hr
        injection h with e
        subst e
        intro x hx
        rcases List.mem_cons.1 hx with rfl | hx
        · exact tame_label hr hy
        · exact ht x hx
      · exact tame_goto h rest
    · rename_i x₂ k₂ _ he
      injection he with e1 e2
      subst e2
      exact tame_goto h rest
    · rename_i he; cases he
theorem getD_set (a : Array Value) (d k : Nat) (v u : Value) : (a.setIfInBounds d v).getD k u = if d = k ∧ k < a.size then v else a.getD k u := by
  simp only [Array.getD_eq_getD_getElem?, Array.getElem?_setIfInBounds]
  by_cases h : d = k
  · subst h
    by_cases h2 : d < a.size
    · simp [h2]
    · simp [h2]
  · simp [h]
theorem FrOk.raise {fr : Frame} (h : FrOk C fr) (vs : List PanicEntry) : FrOk C (fr.raise vs) := by
  unfold Frame.raise
  split <;> exact ⟨h.fnS, h.round, h.defers, h.kind, h.todo, h.slots⟩
theorem FrOk.mode {fr : Frame} (h : FrOk C fr) (m : FrameMode) : FrOk C { fr with mode := m } := ⟨h.fnS, h.round, h.defers, h.kind, h.todo, h.slots⟩
theorem FrOk.to {fr : Frame} (h : FrOk C fr) {k : List Item} (hk : ∀ x ∈ k, tameItem C fr.fn x = true) : FrOk C { fr with todo := k } := ⟨h.fnS, h.round, h.defers, h.kind, hk, h.slots⟩
theorem FrOk.finish {fr : Frame} (h : FrOk C fr) {ops : Array Oper} {i : Nat} {l : List Nat} {k : List Item} (ht : fr.todo = .inRegion ops (i :: l) :: k) (v : Value)
    (hv : ∀ d, (ops[i]?).bind (·.dst) = some d → d ∈ C.fs fr.fn → goodV C v) : FrOk C (fr.finish v) := by
  have e : fr.finish v = { fr with tmps := match (ops[i]?).bind (·.dst) with
                | some d => fr.tmps.setIfInBounds d v
                | none => fr.tmps, todo := .inRegion ops l :: k } := by
    obtain ⟨fn, tmps, todo, defers, mode, kind, ro⟩ := fr
    simp only at ht
    subst ht
    rfl
  rw [e]
  have h0 := h.todo
  rw [ht] at h0
  refine ⟨h.fnS, h.round, h.defers, h.kind, fun x hx => ?_, fun j hj => ?_⟩
  · rcases List.mem_cons.1 hx with rfl | hx
    · have h1 := h0 (.inRegion ops (i :: l)) (List.mem_cons_self ..)
      simp only [tameItem, List.all_cons, Bool.and_eq_true] at h1 ⊢
      exact h1.2
    · exact h0 x (List.mem_cons_of_mem _ hx)
  · show goodV C (Array.getD (match (ops[i]?).bind (·.dst) with
                | some d => fr.tmps.setIfInBounds d v
                | none => fr.tmps) j undef)
    cases hd : (ops[i]?).bind (·.dst) with
    | none => exact h.slots j hj
    | some d =>
      dsimp only
      rw [getD_set]
      split
      · rename_i hdj
        exact hv d hd (hdj.1 ▸ hj)
      · exact h.slots j hj
theorem tame_any {ops : Array Oper} (h : ops.toList.all (tameOp C f) = true) (l : List Nat) : tameItem C f (.inRegion ops l) = true := by
  simp only [tameItem, List.all_eq_true]
  intro i _
  cases ho : ops[i]? with
  | none => rfl
  | some o =>
    rw [List.all_eq_true] at h
    exact h o (by rw [← Array.getElem?_toList] at ho; exact List.mem_of_getElem? ho)
theorem freeDst_not {o : Option Tmp} (h : freeDst C f o = true) : ∀ d, o = some d → d ∉ C.fs f := by
  rintro d rfl hm
  simp [freeDst] at h
  exact h hm
end
/-! ### a step of the top frame -/
def Win (w : World) (N : Nat) (σ : Nat → Question → Nat) (e : Nat) : Prop := ∀ i, i < N → σ (e + i) = w.tape (w.drawn + i)
/-- What a step of the top frame does: it hangs on a window of the tape, and on no caller. -/
def Out (P : Program) (C : Chk) (fr : Frame) (w : World) : Prop :=
  ∃ N, (∃ (fr' : Frame) (w' : World) (es : Array Event), Ev es ∧ FrOk C fr' ∧ ∀ σ e, Win w N σ e → ∀ cs, stepG P true (G fr cs) (w.on σ e) = .go (G fr' cs) (w'.on σ (e + N)) es) ∨
    (∃ (fr₂ : Frame) (w' : World) (es : Array Event), Ev es ∧ FrOk C fr₂ ∧ (∀ v, FrOk C (fr.finish v)) ∧ fr₂.mode = .run ∧ ∀ σ e, Win w N σ e → ∀ cs, stepG P true (G fr cs) (w.on σ e) = .go (G fr₂ (fr :: cs)) (w'.on σ (e + N)) es) ∨
    (∀ σ e, Win w N σ e → ∀ cs, ∃ o w' es, stepG P true (G fr cs) (w.on σ e) = .ended o w' es)
section
variable {P : Program} {C : Chk} {fr : Frame} {w : World}
theorem Out.stay {fr' : Frame} (hf : FrOk C fr') (h : ∀ σ e cs, stepG P true (G fr cs) (w.on σ e) = .go (G fr' cs) (w.on σ e) #[]) : Out P C fr w :=
  ⟨0, .inl ⟨fr', w, #[], ev_nil, hf, fun σ e _ cs => h σ e cs⟩⟩
theorem Out.ends (h : ∀ σ e cs, ∃ o w' es, stepG P true (G fr cs) (w.on σ e) = .ended o w' es) : Out P C fr w := ⟨0, .inr (.inr fun σ e _ cs => h σ e cs)⟩
theorem stepG_run (hm : fr.mode = .run) (cs : List Frame) (w : World) : stepG P true (G fr cs) w = stepG.exec P true true fr cs none w := by
  unfold stepG G
  simp only [hm]
theorem early_none (hs : ∀ g, P.stepOf g = none) (g : Nat) (w : World) :
    (∃ w' : World, ∀ σ e cs, early P fr cs none g (w.on σ e) = .go (G fr cs) (w'.on σ e) #[]) ∨ (∀ σ e cs, ∃ o w' es, early P fr cs none g (w.on σ e) = .ended o w' es) := by
  unfold early
  simp only [hs, on_heap]
  by_cases hf : (!P.follows .staticDataAhead) = true
  · simp only [hf, if_true]
    cases hh : w.heap[g]? with
    | none => exact .inr fun σ e cs => ⟨_, _, _, rfl⟩
    | some o =>
      cases o with
      | pending c elem => exact .inl ⟨{ w with heap := w.heap.setIfInBounds g (.cells c elem) }, fun σ e cs => rfl⟩
      | _ => exact .inr fun σ e cs => ⟨_, _, _, rfl⟩
  · simp only [hf, if_false, Bool.false_eq_true]
    exact .inr fun σ e cs => ⟨_, _, _, rfl⟩
theorem Out.sem (hC : ChkOk P C) (hf : FrOk C fr) {ops : Array Oper} {i : Nat} {l : List Nat} {k : List Item} (ht : fr.todo = .inRegion ops (i :: l) :: k) {s : Sem Next} (hs : Still s) (hy : Yields PlainN s)
    (happ : ∀ σ e cs, stepG P true (G fr cs) (w.on σ e) = stepG.apply P true fr cs none s (w.on σ e))
    (hv : ∀ v w', (s.runT P w #[]).1 = .ok (.value v) w' → FrOk C (fr.finish v)) : Out P C fr w := by
  obtain ⟨h1, h2, h3⟩ := runT_on P s hs w #[]
  have hev := runT_ev P s hs w #[] ev_nil
  have hyr := yields_run P s hs hy w #[]
  have hmr := runT_mild P s hs w #[]
  have hk : (fr.kind == CallKind.early) = false := by rw [hf.kind]; rfl
  refine ⟨(s.runT P w #[]).1.world.drawn - w.drawn, ?_⟩
  generalize hN : (s.runT P w #[]).1.world.drawn - w.drawn = N at h3 ⊢
  cases hr : s.runT P w #[] with
  | mk r es =>
    rw [hr] at h3 hev hyr hmr hv
    simp only at h3 hev hyr hmr hv
    cases r with
    | ok n w' =>
      have hn := hyr n w' rfl
      cases n with
      | value v =>
        refine .inl ⟨fr.finish v, w', seen P fr.fn es ++ #[], (ev_seen hev).app ev_nil, hv v w' rfl, fun σ e hw cs => ?_⟩
        rw [happ]
        unfold stepG.apply
        simp only [if_true]
        rw [h3 σ e hw]
        simp only [Result.on, hk, Bool.false_eq_true, if_false]
        rfl
      | skip =>
        refine .inl ⟨fr.finish undef, w', seen P fr.fn es ++ #[], (ev_seen hev).app ev_nil, hf.finish ht _ (fun _ _ _ => goodV_undef C), fun σ e hw cs => ?_⟩
        rw [happ]
        unfold stepG.apply
        simp only [if_true]
        rw [h3 σ e hw]
        simp only [Result.on, hk, Bool.false_eq_true, if_false]
        rfl
      | _ => exact hn.elim
    | halt h w' =>
      have hm := hmr h w' rfl
      cases h with
      | panic v =>
        refine .inl ⟨fr.raise [{ v, recovered := false }], w', seen P fr.fn es ++ #[], (ev_seen hev).app ev_nil, hf.raise _, fun σ e hw cs => ?_⟩
        rw [happ]
        unfold stepG.apply
        simp only [if_true]
        rw [h3 σ e hw]
        simp only [Result.on, hk, Bool.false_eq_true, if_false]
        rfl
      | stuck m =>
        refine .inr (.inr fun σ e hw cs => ?_)
        rw [happ]
        unfold stepG.apply
        simp only [if_true]
        rw [h3 σ e hw]
        exact ⟨_, _, _, rfl⟩
      | unsupported u =>
        cases u with
        | initOrder g =>
          rcases early_none (fr := fr) hC.steps g w' with ⟨w₂, he⟩ | he
          · refine .inl ⟨fr, w₂, seen P fr.fn #[] ++ #[], (ev_seen ev_nil).app ev_nil, hf, fun σ e hw cs => ?_⟩
            rw [happ]
            unfold stepG.apply
            simp only [if_true]
            rw [h3 σ e hw]
            simp only [Result.on, ite_self]
            rw [he]
            rfl
          · refine .inr (.inr fun σ e hw cs => ?_)
            rw [happ]
            unfold stepG.apply
            simp only [if_true]
            rw [h3 σ e hw]
            simp only [Result.on]
            obtain ⟨o, w₃, es₃, he'⟩ := he σ (e + N) cs
            rw [he']
            exact ⟨_, _, _, rfl⟩
        | _ =>
          refine .inr (.inr fun σ e hw cs => ?_)
          rw [happ]
          unfold stepG.apply
          simp only [if_true]
          rw [h3 σ e hw]
          exact ⟨_, _, _, rfl⟩
      | _ => exact absurd hm Bool.false_ne_true
/-- A call that enters a function of S. -/
theorem Out.enter (hC : ChkOk P C) (hf : FrOk C fr) {s : Sem Next} {g : FuncId} {args : Array Value} (hg : C.S g = true) (hr : ∀ w, s.runT P w #[] = (.ok (.enter g args) w, #[]))
    (happ : ∀ σ e cs, stepG P true (G fr cs) (w.on σ e) = stepG.apply P true fr cs none s (w.on σ e)) (hkind : ∀ d b r x k, fr.todo ≠ .call d b r x :: k)
    (hv : ∀ v, FrOk C (fr.finish v)) (ha : ∀ k ∈ C.fs g, goodV C (args.getD k undef)) : Out P C fr w := by
  have hk : (fr.kind == CallKind.early) = false := by rw [hf.kind]; rfl
  obtain ⟨fn, body, hfn, _, hb, ht⟩ := hC.body g hg
  refine ⟨0, .inr (.inl ⟨Frame.enter P g args .normal, w, seen P fr.fn #[] ++ #[], (ev_seen ev_nil).app ev_nil, ⟨.inl hg, rfl, rfl, rfl, fun x hx => ?_, fun j hj => ?_⟩, hv, rfl, fun σ e hw cs => ?_⟩)⟩
  · simp only [Frame.enter, hfn, hb, Option.bind_some, Option.getD_some, List.mem_singleton] at hx
    subst hx
    exact ht
  · show goodV C ((args ++ Array.replicate _ undef).getD j undef)
    have := ha j hj
    simp only [Array.getD_eq_getD_getElem?] at this ⊢
    rw [Array.getElem?_append]
    split
    · exact this
    · rw [Array.getElem?_replicate]
      split <;> exact goodV_undef C
  · rw [happ]
    unfold stepG.apply
    simp only [if_true]
    rw [hr]
    simp only [hk, Bool.false_eq_true, if_false]
    have e2 : ∀ (κ : CallKind), κ = CallKind.normal → GStep.after (seen P fr.fn #[]) (GStep.go { frame := Frame.enter P g args κ, callers := fr :: cs, status := GoStatus.running, dying := none } (w.on σ e)) =
        GStep.go (G (Frame.enter P g args CallKind.normal) (fr :: cs)) (w.on σ (e + 0)) (seen P fr.fn #[] ++ #[]) := fun κ h => by subst h; rfl
    refine e2 _ ?_
    split
    · rename_i h; exact absurd h (hkind _ _ _ _ _)
    · rfl
theorem callFunc_enter (hC : ChkOk P C) {g : FuncId} (hg : C.S g = true) (args : Array Value) (w : World) : (callFunc g args).runT P w #[] = (.ok (.enter g args) w, #[]) := by
  obtain ⟨fn, body, hfn, hn, hb, ht⟩ := hC.body g hg
  have e : (callFunc g args).runT P w #[] = ((match P.funcs[g]? with
    | none => stuck "call: no such function"
    | some fn =>
      if fn.name == "runtime.NumGoroutine" then pure .numGoroutine
      else if fn.body.isNone then do
        mark (.extern g)
        if let some e := Extern.findNext fn then return ← e args
        match Extern.find fn with
        | some e => pure (.value (← e args))
        | none =>
          if fn.name.endsWith ".init" && !fn.name.startsWith "(" && !fn.name.startsWith "gosem." then pure (.value (.tuple #[]))
          else unsupported (.extern fn.name)
      else pure (.enter g args) : Sem Next)).runT P w #[] := rfl
  rw [e, hfn]
  have hn' : (fn.name == "runtime.NumGoroutine") = false := by simpa using hn
  simp only [hn', hb, Option.isNone_some, Bool.false_eq_true, if_false]
  rfl
end
end Go.Proofs.Ytaeaacdjiijooaa.Lift

namespace Go.Proofs.Ytaeaacdjiijooaa.Lift
open Go Go.Conc
set_option linter.unusedVariables false
section
variable {P : Program} {C : Chk} {fr : Frame} {w : World}
theorem yields_panic : Yields PlainN (runtimePanic .nilDeref : Sem Next) := by
  unfold runtimePanic
  exact yields_bind' (fun p => by
    dsimp only
    repeat' (first | exact yields_bind' (fun _ => trivial) | exact trivial | split))
theorem tame_get {f : FuncId} {ops : Array Oper} {i : Nat} {o : Oper} (h : ops.toList.all (tameOp C f) = true) (ho : ops[i]? = some o) : tameOp C f o = true := by
  rw [List.all_eq_true] at h
  exact h o (by rw [← Array.getElem?_toList] at ho; exact List.mem_of_getElem? ho)
theorem oper_out (hC : ChkOk P C) (hf : FrOk C fr) {ops : Array Oper} {i : Nat} {l : List Nat} {k : List Item} (ht : fr.todo = .inRegion ops (i :: l) :: k) {o : Oper} (ho : ops[i]? = some o)
    (happ : ∀ σ e cs, stepG P true (G fr cs) (w.on σ e) = stepG.apply P true fr cs none (execOp fr.eval o) (w.on σ e)) : Out P C fr w := by
  have htm : tameOp C fr.fn o = true := by
    have h1 := hf.todo (.inRegion ops (i :: l)) (by rw [ht]; exact List.mem_cons_self ..)
    simp only [tameItem, List.all_cons, Bool.and_eq_true, ho, Option.all_some] at h1
    exact h1.1
  have hdst : (ops[i]?).bind (·.dst) = o.dst := by rw [ho]; rfl
  have hfin : freeDst C fr.fn o.dst = true → ∀ v, FrOk C (fr.finish v) := fun h v => hf.finish ht v fun d hd hm => absurd hm (freeDst_not h d (hdst ▸ hd))
  have hkind : ∀ d b r x k, fr.todo ≠ .call d b r x :: k := fun d b r x k h => by rw [ht] at h; cases h
  obtain ⟨dst, op, ty, pos, aft, grd⟩ := o
  unfold tameOp at htm
  dsimp only at htm hfin hdst
  split at htm
  · rename_i c
    simp only [Bool.and_eq_true] at htm
    obtain ⟨hfree, htm⟩ := htm
    have hfin := hfin hfree
    obtain ⟨callee, cargs, ctypes⟩ := c
    dsimp only at htm
    split at htm
    · rename_i b
      exact Out.sem hC hf ht (still_builtin b _ _ _ _ htm) (yields_builtin b _ _ _ _ htm) happ (fun v w' _ => hfin v)
    · cases htm
    · rename_i g
      simp only [Bool.and_eq_true, List.all_eq_true] at htm
      refine Out.enter hC hf (g := g) (args := (#[] ++ cargs.map fr.eval) ++ #[]) htm.1 (fun w => ?_) happ hkind hfin (fun k hk => ?_)
      · exact callFunc_enter hC htm.1 _ w
      · have ha := htm.2 k hk
        simp only [Array.empty_append, Array.append_empty, Array.getD_eq_getD_getElem?, Array.getElem?_map]
        rw [← Array.getElem?_toList]
        cases hx : cargs.toList[k]? with
        | none => exact goodV_undef C
        | some x =>
          rw [hx] at ha
          cases x with
          | tmp j =>
            have : j ∈ C.fs fr.fn := by simpa [okArg] using ha
            exact hf.slots j this
          | func h =>
            intro t a b e
            injection e with e1
            exact ⟨h, e1.symm, ha⟩
          | const v => cases ha
          | global g => cases ha
    · rename_i j
      have hj : j ∈ C.fs fr.fn := by simpa using htm
      have hg := hf.slots j hj
      have hex : execOp fr.eval ⟨dst, .call ⟨.value (.tmp j), cargs, ctypes⟩, ty, pos, aft, grd⟩ = (do let d ← Deferred.ofValue (fr.tmps.getD j undef) (cargs.map fr.eval); invoke d.target d.args) := rfl
      rw [hex] at happ
      generalize hval : fr.tmps.getD j undef = v at hg happ
      cases v with
      | func t a b =>
        obtain ⟨h, rfl, hV⟩ := hg t a b rfl
        obtain ⟨hS, hfs⟩ := hC.val h hV
        refine Out.enter hC hf (g := h) (args := (a ++ cargs.map fr.eval) ++ b) hS (fun w => ?_) happ hkind hfin (fun k hk => ?_)
        · exact callFunc_enter hC hS _ w
        · rw [hfs] at hk; cases hk
      | nilFunc => exact Out.sem hC hf ht (s := runtimePanic .nilDeref) (still_runtimePanic _) yields_panic happ (fun v w' _ => hfin v)
      | _ => exact Out.sem hC hf ht (s := stuck "call: function value expected") (still_stuck _) trivial happ (fun v w' _ => hfin v)
    · cases htm
  · rename_i fn first captured
    have hex : execOp fr.eval ⟨dst, .makeFunc fn first captured, ty, pos, aft, grd⟩ = (pure (.value (.func fn (first.map fr.eval) (captured.map fr.eval)))) := rfl
    rw [hex] at happ
    refine Out.sem hC hf ht (still_pure _) (show Yields PlainN (Sem.pure (Next.value (.func fn (first.map fr.eval) (captured.map fr.eval)))) from trivial) happ (fun v w' hr => ?_)
    have hv : v = .func fn (first.map fr.eval) (captured.map fr.eval) := by
      have e : (Result.ok (Next.value (.func fn (first.map fr.eval) (captured.map fr.eval))) w) = .ok (.value v) w' := hr
      injection e with e1
      injection e1 with e2
      exact e2.symm
    simp only [Bool.or_eq_true] at htm
    rcases htm with h | h
    · exact hfin h v
    · refine hf.finish ht v fun d _ _ => ?_
      rw [hv]
      intro t a b e
      injection e with e1
      subst e1
      cases fn with
      | func h' => exact ⟨h', rfl, h⟩
      | _ => cases h
  · rename_i x
    have hex : execOp fr.eval ⟨dst, .move x, ty, pos, aft, grd⟩ = (pure (.value (fr.eval x))) := rfl
    rw [hex] at happ
    refine Out.sem hC hf ht (still_pure _) (show Yields PlainN (Sem.pure (Next.value (fr.eval x))) from trivial) happ (fun v w' hr => ?_)
    have hv : v = fr.eval x := by
      have e : (Result.ok (Next.value (fr.eval x)) w) = .ok (.value v) w' := hr
      injection e with e1
      injection e1 with e2
      exact e2.symm
    simp only [Bool.or_eq_true] at htm
    rcases htm with h | h
    · exact hfin h v
    · refine hf.finish ht v fun d _ _ => ?_
      rw [hv]
      cases x with
      | tmp j =>
        have : j ∈ C.fs fr.fn := by simpa [okArg] using h
        exact hf.slots j this
      | func h' =>
        intro t a b e
        injection e with e1
        exact ⟨h', e1.symm, h⟩
      | const v => cases h
      | global g => cases h
  · rename_i op' hn1 hn2 hn3
    simp only [Bool.and_eq_true] at htm
    exact Out.sem hC hf ht (still_calm _ _ htm.1) (yields_calm _ _ htm.1) happ (fun v w' _ => hfin htm.2 v)
theorem exec_out (hC : ChkOk P C) (hf : FrOk C fr) (hm : fr.mode = .run) (w : World) : Out P C fr w := by
  have hro := hf.round
  have htame := hf.todo
  have leave_none : ∀ (k : List Item) (σ : Nat → Question → Nat) (e : Nat) (cs : List Frame), FrOk C { fr with mode := .returning } := fun _ _ _ _ => hf.mode _
  cases htd : fr.todo with
  | nil =>
    refine Out.stay (hf.mode .returning) fun σ e cs => ?_
    rw [stepG_run hm]
    unfold stepG.exec
    simp only [htd, hro]
    rfl
  | cons x k =>
    have hx : tameItem C fr.fn x = true := htame x (by rw [htd]; exact List.mem_cons_self ..)
    have hk : ∀ y ∈ k, tameItem C fr.fn y = true := fun y hy => htame y (by rw [htd]; exact List.mem_cons_of_mem _ hy)
    have h1 : ∀ y, tameItem C fr.fn y = true → ∀ z ∈ y :: k, tameItem C fr.fn z = true := fun y hy z hz => by
      rcases List.mem_cons.1 hz with rfl | hz
      · exact hy
      · exact hk z hz
    have h2 : ∀ y y', tameItem C fr.fn y = true → tameItem C fr.fn y' = true → ∀ z ∈ y :: y' :: k, tameItem C fr.fn z = true := fun y y' hy hy' z hz => by
      rcases List.mem_cons.1 hz with rfl | hz
      · exact hy
      · exact h1 y' hy' z hz
    cases x with
    | code c =>
      cases c with
      | skip =>
        refine Out.stay (hf.to hk) fun σ e cs => ?_
        rw [stepG_run hm]; unfold stepG.exec; simp only [htd]; rfl
      | label l =>
        refine Out.stay (hf.to hk) fun σ e cs => ?_
        rw [stepG_run hm]; unfold stepG.exec; simp only [htd]; rfl
      | seq a b =>
        simp only [tameItem, tameCode, Bool.and_eq_true] at hx
        refine Out.stay (hf.to (h2 (.code a) (.code b) hx.1 hx.2)) fun σ e cs => ?_
        rw [stepG_run hm]; unfold stepG.exec; simp only [htd]; rfl
      | cond c a b =>
        simp only [tameItem, tameCode, Bool.and_eq_true] at hx
        cases hc : fr.eval c with
        | bool t =>
          refine Out.stay (hf.to (h1 (.code (if t then a else b)) (by cases t <;> simp [tameItem, hx.1, hx.2]))) fun σ e cs => ?_
          rw [stepG_run hm]; unfold stepG.exec; simp only [htd, hc]; rfl
        | _ =>
          refine Out.ends fun σ e cs => ?_
          rw [stepG_run hm]; unfold stepG.exec; simp only [htd, hc]
          exact ⟨_, _, _, rfl⟩
      | block id c =>
        refine Out.stay (hf.to (h2 (.code c) (.inBlock id) hx rfl)) fun σ e cs => ?_
        rw [stepG_run hm]; unfold stepG.exec; simp only [htd]; rfl
      | loop c =>
        refine Out.stay (hf.to (h2 (.code c) (.inLoop c) hx hx)) fun σ e cs => ?_
        rw [stepG_run hm]; unfold stepG.exec; simp only [htd]; rfl
      | scope c =>
        refine Out.stay (hf.to (h2 (.code c) (.inScope c) hx hx)) fun σ e cs => ?_
        rw [stepG_run hm]; unfold stepG.exec; simp only [htd]; rfl
      | rangeFunc => cases hx
      | exit id =>
        cases he : exitTo id k with
        | some k' =>
          refine Out.stay (hf.to (tame_exit he hk)) fun σ e cs => ?_
          rw [stepG_run hm]; unfold stepG.exec; simp only [htd, he]; rfl
        | none =>
          refine Out.ends fun σ e cs => ?_
          rw [stepG_run hm]; unfold stepG.exec; simp only [htd, he, Option.elim, hro]
          exact ⟨_, _, _, rfl⟩
      | goto id =>
        cases he : gotoIn id k with
        | some k' =>
          refine Out.stay (hf.to (tame_goto he hk)) fun σ e cs => ?_
          rw [stepG_run hm]; unfold stepG.exec; simp only [htd, he]; rfl
        | none =>
          refine Out.ends fun σ e cs => ?_
          rw [stepG_run hm]; unfold stepG.exec; simp only [htd, he, Option.elim, hro]
          exact ⟨_, _, _, rfl⟩
      | ret =>
        refine Out.stay (hf.mode .returning) fun σ e cs => ?_
        rw [stepG_run hm]; unfold stepG.exec; simp only [htd, hro]; rfl
      | refuse why =>
        refine Out.ends fun σ e cs => ?_
        rw [stepG_run hm]; unfold stepG.exec; simp only [htd]
        exact ⟨_, _, _, rfl⟩
      | region id ops draw =>
        cases draw with
        | false =>
          refine Out.stay (hf.to (h1 (.inRegion ops (List.range ops.size)) (tame_any hx _))) fun σ e cs => ?_
          rw [stepG_run hm]; unfold stepG.exec; simp only [htd]; rfl
        | true =>
          refine ⟨1, .inl ⟨{ fr with todo := .inRegion ops (Region.schedule (P.follows .mixedOrders) ops (w.tape w.drawn (.order fr.fn id))) :: k }, { w with drawn := w.drawn + 1 }, #[], ev_nil, hf.to (h1 _ (tame_any hx _)), fun σ e hw cs => ?_⟩⟩
          have h0 := hw 0 (Nat.lt_succ_self 0)
          simp only [Nat.add_zero] at h0
          rw [stepG_run hm]; unfold stepG.exec; simp only [htd]
          have h1 : (choose (.order fr.fn id)).run P (w.on σ e) = .ok (w.tape w.drawn (.order fr.fn id)) ({ w with drawn := w.drawn + 1 }.on σ (e + 1)) := by
            show Result.ok _ _ = _
            simp only [on_tape, on_drawn, h0]
            rfl
          simp only [Bool.not_true, Bool.false_eq_true, if_false]
          rw [h1]
          rfl
    | inBlock id =>
      refine Out.stay (hf.to hk) fun σ e cs => ?_
      rw [stepG_run hm]; unfold stepG.exec; simp only [htd]; rfl
    | inScope c =>
      refine Out.stay (hf.to hk) fun σ e cs => ?_
      rw [stepG_run hm]; unfold stepG.exec; simp only [htd]; rfl
    | inLoop c =>
      refine Out.stay (hf.to (h2 (.code c) (.inLoop c) hx hx)) fun σ e cs => ?_
      rw [stepG_run hm]; unfold stepG.exec; simp only [htd]; rfl
    | inRegion ops l =>
      cases l with
      | nil =>
        refine Out.stay (hf.to hk) fun σ e cs => ?_
        rw [stepG_run hm]; unfold stepG.exec; simp only [htd]; rfl
      | cons i l =>
        cases hw : ((ops[i]?).map (Region.wanted · (yielded ops fr.tmps))).getD false with
        | false =>
          refine Out.stay (hf.finish htd undef fun _ _ _ => goodV_undef C) fun σ e cs => ?_
          rw [stepG_run hm]; unfold stepG.exec; simp only [htd, hw]; rfl
        | true =>
          cases ho : ops[i]? with
          | none => rw [ho] at hw; cases hw
          | some o =>
            refine oper_out hC hf htd ho fun σ e cs => ?_
            rw [stepG_run hm]; unfold stepG.exec; simp only [htd, hw]
            have e1 : fr.oper? = some o := by unfold Frame.oper?; simp only [htd, ho]
            simp only [if_true]
            unfold stepG.oper
            simp only [e1, hro]
    | _ => cases hx
end
end Go.Proofs.Ytaeaacdjiijooaa.Lift

namespace Go.Proofs.Ytaeaacdjiijooaa.Lift
open Go Go.Conc
set_option linter.unusedVariables false
/-! ### a lone run, lifted -/
theorem still_results (fn : Func) (t : Array Value) : Still (results fn t) := by
  unfold results
  refine Still.bind' (Still.mapM_array _ (fun a => ?_) _) (fun _ => still_pure _)
  cases a
  · exact still_pure _
  · exact Still.bind' (still_asAddr _) (fun _ => still_loadVar _ _)
theorem finish_mode (fr : Frame) (v : Value) : (fr.finish v).mode = fr.mode := by
  unfold Frame.finish
  split <;> rfl
/-- The frames of the walk: the top one, and those that wait for it. -/
def Tops (C : Chk) (fr : Frame) (ups : List Frame) : Prop := FrOk C fr ∧ ∀ c ∈ ups, FrOk C c ∧ c.mode = .run ∧ ∀ v, FrOk C (c.finish v)
theorem Win.self (w : World) (N : Nat) : Win w N w.tape w.drawn := fun _ _ => rfl
section
variable {P : Program} {C : Chk}
theorem stepG_unwind {fr : Frame} (hm : fr.mode ≠ .run) (cs : List Frame) (w : World) : stepG P true (G fr cs) w = unwind P true fr cs none w := by
  unfold stepG G
  cases h : fr.mode with
  | run => exact absurd h hm
  | _ => simp only [h]
theorem step_tops (hC : ChkOk P C) {fr : Frame} {ups : List Frame} (h : Tops C fr ups) (hne : fr.mode = .run ∨ ups ≠ []) (w : World) : ∃ N,
    (∃ (fr' : Frame) (ups' : List Frame) (w' : World) (es : Array Event), Ev es ∧ Tops C fr' ups' ∧ ∀ σ e, Win w N σ e → ∀ X, stepG P true (G fr (ups ++ X)) (w.on σ e) = .go (G fr' (ups' ++ X)) (w'.on σ (e + N)) es) ∨
    (∀ σ e, Win w N σ e → ∀ X, ∃ o w' es, stepG P true (G fr (ups ++ X)) (w.on σ e) = .ended o w' es) := by
  obtain ⟨hf, hu⟩ := h
  obtain ⟨fn, body, hfn, hb⟩ := hC.entry hf.fnS
  cases hm : fr.mode with
  | run =>
    obtain ⟨N, h⟩ := exec_out hC hf hm w
    refine ⟨N, ?_⟩
    rcases h with ⟨fr', w', es, he, hf', hs⟩ | ⟨fr₂, w', es, he, hf₂, hv, hm₂, hs⟩ | h
    · exact .inl ⟨fr', ups, w', es, he, ⟨hf', hu⟩, fun σ e hw X => hs σ e hw _⟩
    · refine .inl ⟨fr₂, fr :: ups, w', es, he, ⟨hf₂, fun c hc => ?_⟩, fun σ e hw X => hs σ e hw _⟩
      rcases List.mem_cons.1 hc with rfl | hc
      · exact ⟨hf, hm, hv⟩
      · exact hu c hc
    · exact .inr fun σ e hw X => h σ e hw _
  | panicking ch =>
    cases ups with
    | nil => rcases hne with h | h
             · rw [hm] at h; cases h
             · exact absurd rfl h
    | cons c cs =>
      obtain ⟨hc, hcm, _⟩ := hu c (List.mem_cons_self ..)
      refine ⟨0, .inl ⟨c.raise ch, cs, w, #[], ev_nil, ⟨hc.raise _, fun c' hc' => hu c' (List.mem_cons_of_mem _ hc')⟩, fun σ e _ X => ?_⟩⟩
      rw [stepG_unwind (by rw [hm]; simp)]
      unfold unwind
      simp only [hf.defers, hm, Frame.catches, hfn, List.cons_append]
      rfl
  | returning =>
    cases ups with
    | nil => rcases hne with h | h
             · rw [hm] at h; cases h
             · exact absurd rfl h
    | cons c cs =>
      obtain ⟨hc, hcm, hcv⟩ := hu c (List.mem_cons_self ..)
      obtain ⟨_, _, h3⟩ := runT_on P (results fn fr.tmps) (still_results _ _) w #[]
      have hev := runT_ev P (results fn fr.tmps) (still_results _ _) w #[] ev_nil
      refine ⟨((results fn fr.tmps).runT P w #[]).1.world.drawn - w.drawn, ?_⟩
      generalize hN : ((results fn fr.tmps).runT P w #[]).1.world.drawn - w.drawn = N at h3 ⊢
      cases hr : (results fn fr.tmps).runT P w #[] with
      | mk r es =>
        rw [hr] at h3 hev
        cases r with
        | ok v w' =>
          refine .inl ⟨c.finish v, cs, w', seen P fr.fn es ++ #[], (ev_seen hev).app ev_nil, ⟨hcv v, fun c' hc' => hu c' (List.mem_cons_of_mem _ hc')⟩, fun σ e hw X => ?_⟩
          rw [stepG_unwind (by rw [hm]; simp)]
          unfold unwind
          simp only [hf.defers, hm, hfn, List.cons_append]
          rw [h3 σ e hw]
          simp only [Result.on, doReturn, hf.kind]
          rfl
        | halt x w' =>
          refine .inr fun σ e hw X => ?_
          rw [stepG_unwind (by rw [hm]; simp)]
          unfold unwind
          simp only [hf.defers, hm, hfn, List.cons_append]
          rw [h3 σ e hw]
          cases x <;> exact ⟨_, _, _, rfl⟩
/-! #### the trap -/
/-- Whoever comes back to it is stuck; whoever panics into it is at the run's end. -/
def trap : Frame := { (default : Frame) with mode := .run, todo := [.code (.exit 0)], defers := [{ target := .nil, args := #[] }], roundOf := none }
theorem step_solo_go {a a' : Goroutine} {w w' : World} {es : Array Event} (hs : a.status = .running) (h : stepG P true a w = .go a' w' es) : step P (solo a w) = .next (solo a' w') := by
  unfold step
  rw [stepT_solo hs, runT_solo_go h]
theorem step_solo_ended {a : Goroutine} {w w' : World} {o : Outcome} {es : Array Event} (hs : a.status = .running) (h : stepG P true a w = .ended o w' es) : step P (solo a w) = .ended o w' := by
  unfold step
  rw [stepT_solo hs]
  simp [runT, solo, Array.swapAt!, Array.swapAt, h]
def Doomed (P : Program) (g : Goroutine) (w : World) : Prop := ∀ n fr' w', runN P n (solo g w) = .next (solo (G fr' [trap]) w') → n = 0
theorem Doomed.of_ended {g : Goroutine} {w w' : World} {o : Outcome} {es : Array Event} (hs : g.status = .running) (h : stepG P true g w = .ended o w' es) : Doomed P g w := by
  intro n fr' w' hn
  cases n with
  | zero => rfl
  | succ n =>
    simp only [runN, step_solo_ended hs h] at hn
    cases hn
theorem solo_inj {a b : Goroutine} {w w' : World} (h : solo a w = solo b w') : a = b ∧ w = w' := by
  unfold solo at h
  injection h with h1 h2 h3
  exact ⟨by simpa using h2, h1⟩
/-- Two steps to the run's end. -/
theorem Doomed.of_two {g g' : Goroutine} {w w' w₂ : World} {o : Outcome} {es es₂ : Array Event} (hs : g.status = .running) (hs' : g'.status = .running) (hc : g'.callers = []) (h : stepG P true g w = .go g' w' es) (h' : stepG P true g' w' = .ended o w₂ es₂) : Doomed P g w := by
  intro n fr' w₃ hn
  match n, hn with
  | 0, _ => rfl
  | 1, hn =>
    simp only [runN, step_solo_go hs h] at hn
    injection hn with hn
    have := (solo_inj hn).1
    rw [this] at hc
    cases hc
  | n + 2, hn =>
    simp only [runN, step_solo_go hs h, step_solo_ended hs' h'] at hn
    cases hn
theorem doomed_end (hC : ChkOk P C) {fr : Frame} (hf : FrOk C fr) (hm : fr.mode ≠ .run) (w : World) : Doomed P (G fr [trap]) w := by
  obtain ⟨fn, body, hfn, hb⟩ := hC.entry hf.fnS
  cases hmm : fr.mode with
  | run => exact absurd hmm hm
  | panicking ch =>
    refine Doomed.of_two (g' := G (trap.raise ch) []) (w' := w) (es := #[]) rfl rfl rfl ?_ (o := .unsupported (.noEntry "machine/Return: a deferred call of a nil function value, made while the frame is unwinding") (({ trap.raise ch with defers := [] } : Frame).pos P)) (w₂ := w) (es₂ := #[]) ?_
    · rw [stepG_unwind hm]
      unfold unwind
      simp only [hf.defers, hmm, Frame.catches, hfn]
      rfl
    · rfl
  | returning =>
    cases hr : (results fn fr.tmps).runT P w #[] with
    | mk r es =>
      cases r with
      | ok v w' =>
        refine Doomed.of_two (g' := G (trap.finish v) []) (w' := w') (es := seen P fr.fn es ++ #[]) rfl rfl rfl ?_ (o := .stuck "exit, goto: no such block or label" (trap.pos P)) (w₂ := w') (es₂ := #[]) ?_
        · rw [stepG_unwind hm]
          unfold unwind
          simp only [hf.defers, hmm, hfn]
          rw [hr]
          simp only [doReturn, hf.kind]
          rfl
        · rfl
      | halt x w' =>
        have : ∃ o w₂ es₂, stepG P true (G fr [trap]) w = .ended o w₂ es₂ := by
          rw [stepG_unwind hm]
          unfold unwind
          simp only [hf.defers, hmm, hfn]
          rw [hr]
          cases x <;> exact ⟨_, _, _, rfl⟩
        obtain ⟨o, w₂, es₂, h⟩ := this
        exact Doomed.of_ended rfl h
/-! #### the theorem -/
def Blind (R : Value → World → Prop) : Prop := ∀ v w τ d, R v w → R v (w.on τ d)
/-- The frame stands at its return, with base behind it. -/
def AtLeave (P : Program) (f : FuncId) (R : Value → World → Prop) (base : List Frame) (a : Goroutine) (w : World) : Prop := ∃ fr v, a = G fr base ∧ fr.leaving P w (.returned v) ∧ fr.fn = f ∧ R v w
theorem leaving_on {fr : Frame} {w : World} {v : Value} (h : fr.leaving P w (.returned v)) (τ : Nat → Question → Nat) (d : Nat) : fr.leaving P (w.on τ d) (.returned v) := by
  obtain ⟨h1, h2, h3, fn, hfn, hr⟩ := h
  refine ⟨h1, h2, h3, fn, hfn, ?_⟩
  obtain ⟨_, _, h3⟩ := runT_on P (results fn fr.tmps) (still_results _ _) w #[]
  have e : ((results fn fr.tmps).runT P w #[]).1 = .ok v w := by rw [← hr]; exact Sem.runT_fst ..
  have h4 := h3 τ d (by rw [e]; intro i hi; simp [Result.world] at hi)
  rw [e] at h4
  have : ((results fn fr.tmps).run P (w.on τ d)) = ((results fn fr.tmps).runT P (w.on τ d) #[]).1 := (Sem.runT_fst ..).symm
  rw [this, h4]
  simp [Result.on, Result.world]
/-- ████ A LONE RUN ON EVERY TAPE IS A WALK BESIDE LEAVERS. ████ -/
theorem lift (hC : ChkOk P C) {f : FuncId} {R : Value → World → Prop} (hB : Blind R) {fr₀ : Frame} {ups₀ : List Frame} {w₀ : World} (base : List Frame) (h0 : Tops C fr₀ ups₀)
    (hR : ∀ σ, ∃ n fr' w' v, runN P n (solo (G fr₀ (ups₀ ++ [trap])) (w₀.on σ 0)) = .next (solo (G fr' [trap]) w') ∧ fr'.leaving P w' (.returned v) ∧ fr'.fn = f ∧ R v w') :
    GoesW P true AtRel D0 (AtLeave P f (fun v w => R v w ∧ w.tape = w₀.tape) base) (G fr₀ (ups₀ ++ base)) w₀ := by
  classical
  refine Classical.byContradiction fun hn => ?_
  let St := Frame × List Frame × World
  let Bad (x : St) : Prop := Tops C x.1 x.2.1 ∧ x.2.2.tape = w₀.tape ∧ ¬ GoesW P true AtRel D0 (AtLeave P f (fun v w => R v w ∧ w.tape = w₀.tape) base) (G x.1 (x.2.1 ++ base)) x.2.2
  let Ends (x : St) (d N : Nat) : Prop := ∀ σ e, Win (x.2.2.at d) N σ e → ∀ X, ∃ o w' es, stepG P true (G x.1 (x.2.1 ++ X)) (x.2.2.on σ e) = .ended o w' es
  let Goes1 (x : St) (d N : Nat) (y : St) : Prop := ∃ es, ∀ σ e, Win (x.2.2.at d) N σ e → ∀ X, stepG P true (G x.1 (x.2.1 ++ X)) (x.2.2.on σ e) = .go (G y.1 (y.2.1 ++ X)) (y.2.2.on σ (e + N)) es
  have pick : ∀ x : St, ∃ y : Nat × Nat × St, Bad x → (x.1.mode = .run ∨ x.2.1 ≠ []) → Ends x y.1 y.2.1 ∨ (Goes1 x y.1 y.2.1 y.2.2 ∧ Bad y.2.2) := by
    intro x
    refine Classical.byContradiction fun hc => ?_
    have hc' : ∀ y : Nat × Nat × St, Bad x ∧ (x.1.mode = .run ∨ x.2.1 ≠ []) ∧ ¬ (Ends x y.1 y.2.1 ∨ (Goes1 x y.1 y.2.1 y.2.2 ∧ Bad y.2.2)) := fun y =>
      Classical.byContradiction fun h => hc ⟨y, fun h1 h2 => Classical.byContradiction fun h3 => h ⟨h1, h2, h3⟩⟩
    obtain ⟨hb, hne, _⟩ := hc' (0, 0, x)
    have one : ∀ d, ∃ (N : Nat) (y : St) (es : Array Event), Ev es ∧ (∀ σ e, Win (x.2.2.at d) N σ e → ∀ X, stepG P true (G x.1 (x.2.1 ++ X)) (x.2.2.on σ e) = .go (G y.1 (y.2.1 ++ X)) (y.2.2.on σ (e + N)) es) ∧
        y.2.2.tape = x.2.2.tape ∧ GoesW P true AtRel D0 (AtLeave P f (fun v w => R v w ∧ w.tape = w₀.tape) base) (G y.1 (y.2.1 ++ base)) y.2.2 := by
      intro d
      obtain ⟨N, h⟩ := step_tops hC hb.1 hne (x.2.2.at d)
      rcases h with ⟨fr', ups', w', es, he, ht, hs⟩ | h
      · refine ⟨N, (fr', ups', w'.on x.2.2.tape 0), es, he, hs, rfl, Classical.byContradiction fun hg => ?_⟩
        exact (hc' (d, N, (fr', ups', w'.on x.2.2.tape 0))).2.2 (.inr ⟨⟨es, hs⟩, ht, hb.2.1, hg⟩)
      · exact absurd (.inl h) (hc' (d, N, x)).2.2
    refine hb.2.2 (.step rfl ?_ ?_)
    · rintro _ ⟨d, rfl⟩
      obtain ⟨N, y, es, he, hs, _, _⟩ := one d
      exact ⟨_, _, es, hs x.2.2.tape d (Win.self (x.2.2.at d) N) base, he⟩
    · rintro _ g' w' es ⟨d, rfl⟩ hst
      obtain ⟨N, y, es', he, hs, htp, hg⟩ := one d
      have h1 := hs x.2.2.tape d (Win.self (x.2.2.at d) N) base
      have h2 : stepG P true (G x.1 (x.2.1 ++ base)) (x.2.2.on x.2.2.tape d) = .go g' w' es := hst
      rw [h1] at h2
      injection h2 with e1 e2 e3
      subst e1 e2
      exact hg.rely atRel_trans ⟨d + N, by rw [← htp]; rfl⟩
  obtain ⟨F, hF⟩ := Classical.axiomOfChoice pick
  let s (i : Nat) : St × Nat := Nat.rec ((fr₀, ups₀, w₀), 0) (fun _ x => ((F x.1).2.2, x.2 + (F x.1).2.1)) i
  have hsucc : ∀ i, s (i + 1) = ((F (s i).1).2.2, (s i).2 + (F (s i).1).2.1) := fun _ => rfl
  have hK : ∀ i, (s (i + 1)).2 = (s i).2 + (F (s i).1).2.1 := fun i => by rw [hsucc]
  have hmono : ∀ i j, i ≤ j → (s i).2 ≤ (s j).2 := by
    intro i j hij
    induction hij with
    | refl => exact Nat.le_refl _
    | step _ ih => exact Nat.le_trans ih (by rw [hK]; exact Nat.le_add_right _ _)
  let σ (n : Nat) : Question → Nat := if h : ∃ i, (s i).2 ≤ n ∧ n < (s (i + 1)).2 then
      (s h.choose).1.2.2.tape ((F (s h.choose).1).1 + (n - (s h.choose).2)) else fun _ => 0
  have hσ : ∀ i k, k < (F (s i).1).2.1 → σ ((s i).2 + k) = (s i).1.2.2.tape ((F (s i).1).1 + k) := by
    intro i k hk
    have h : ∃ j, (s j).2 ≤ (s i).2 + k ∧ (s i).2 + k < (s (j + 1)).2 := ⟨i, Nat.le_add_right _ _, by rw [hK]; omega⟩
    have hu : h.choose = i := by
      have hc := h.choose_spec
      rcases Nat.lt_trichotomy h.choose i with hlt | he | hgt
      · have := hmono (h.choose + 1) i hlt
        omega
      · exact he
      · have := hmono (i + 1) h.choose hgt
        rw [hK] at this
        omega
    simp only [σ]
    rw [dif_pos h, hu]
    congr 1
    omega
  have hwin : ∀ i, Win ((s i).1.2.2.at (F (s i).1).1) (F (s i).1).2.1 σ (s i).2 := fun i k hk => hσ i k hk
  have key : ∀ n i, Bad (s i).1 → (∃ fr' w' v, runN P n (solo (G (s i).1.1 ((s i).1.2.1 ++ [trap])) ((s i).1.2.2.on σ (s i).2)) = .next (solo (G fr' [trap]) w') ∧ fr'.leaving P w' (.returned v) ∧ fr'.fn = f ∧ R v w') → False := by
    intro n
    induction n with
    | zero =>
      rintro i hb ⟨fr', w', v, hr, hl, hfn, hRv⟩
      simp only [runN] at hr
      injection hr with hr
      obtain ⟨hg, hw⟩ := solo_inj hr
      have hfr : (s i).1.1 = fr' := congrArg Goroutine.frame hg
      have hcs : (s i).1.2.1 ++ [trap] = [trap] := congrArg Goroutine.callers hg
      have hup : (s i).1.2.1 = [] := by
        have := congrArg List.length hcs
        simp at this
        exact this
      refine hb.2.2 (.stop ?_)
      rintro _ ⟨d, rfl⟩
      refine ⟨fr', v, by rw [hup, hfr]; rfl, ?_, hfn, ?_⟩
      · have := leaving_on hl (s i).1.2.2.tape d
        rw [← hw] at this
        exact this
      · have := hB v w' (s i).1.2.2.tape d hRv
        rw [← hw] at this
        exact ⟨this, hb.2.1⟩
    | succ n ih =>
      rintro i hb ⟨fr', w', v, hr, hl, hfn, hRv⟩
      by_cases hne : (s i).1.1.mode = .run ∨ (s i).1.2.1 ≠ []
      · rcases hF (s i).1 hb hne with he | ⟨⟨es, hg⟩, hb'⟩
        · obtain ⟨o, w₂, es, h⟩ := he σ (s i).2 (hwin i) [trap]
          simp only [runN, step_solo_ended rfl h] at hr
          cases hr
        · have h := hg σ (s i).2 (hwin i) [trap]
          simp only [runN, step_solo_go rfl h] at hr
          exact ih (i + 1) (by rw [hsucc]; exact hb') ⟨fr', w', v, by rw [hsucc]; exact hr, hl, hfn, hRv⟩
      · have hm : (s i).1.1.mode ≠ .run := fun h => hne (.inl h)
        have hup : (s i).1.2.1 = [] := Classical.byContradiction fun h => hne (.inr h)
        rw [hup] at hr
        have := doomed_end hC hb.1.1 hm _ (n + 1) fr' w' hr
        cases this
  obtain ⟨n, fr', w', v, hr, hl, hfn, hRv⟩ := hR σ
  exact key n 0 ⟨h0, rfl, hn⟩ ⟨fr', w', v, hr, hl, hfn, hRv⟩
end
end Go.Proofs.Ytaeaacdjiijooaa.Lift

namespace Go.Proofs.Ytaeaacdjiijooaa.Lift
open Go Go.Conc
open Go.ConcN (sumTo upd sumTo_upd upd_ne upd_same)
set_option linter.unusedVariables false
/-! ### the frame: goroutine 0, others that are spoken of, and leavers -/
theorem act_low (x : MemAct) : ∃ B, x.low B := by
  cases x with
  | access e =>
    obtain ⟨loc, wr, sy⟩ := e
    cases loc with
    | cell a => exact ⟨a.block + 1, Nat.lt_succ_self _⟩
    | obj r => exact ⟨r + 1, Nat.lt_succ_self _⟩
    | _ => exact ⟨0, trivial⟩
  | mark m =>
    cases m <;> first | exact ⟨0, trivial⟩ | exact ⟨_, Nat.lt_succ_self _⟩
  | _ => first | exact ⟨0, trivial⟩ | exact ⟨_, Nat.lt_succ_self _⟩
theorem low_list : ∀ u : List MemOp, ∃ B, ∀ op ∈ u, op.act.low B
  | [] => ⟨0, fun _ h => by cases h⟩
  | x :: u => by
    obtain ⟨B, hB⟩ := low_list u
    obtain ⟨B', hB'⟩ := act_low x.act
    refine ⟨max B B', fun op hop => ?_⟩
    rcases List.mem_cons.1 hop with rfl | hop
    · exact MemAct.low_mono (Nat.le_max_right _ _) hB'
    · exact MemAct.low_mono (Nat.le_max_left _ _) (hB op hop)
theorem low_some (u : Trace) : ∃ B, ∀ op ∈ u, op.act.low B := by
  obtain ⟨B, h⟩ := low_list u.toList
  exact ⟨B, fun op hop => h op (by simpa using hop)⟩
theorem deafStep_ne {g : Nat} {op : MemOp} (h : op.g ≠ g) (d : Nat) : deafStep g d op = d := by
  unfold deafStep
  split <;> simp [h]
theorem deafStep_still {g : Nat} {op : MemOp} (h1 : op.act ≠ .mark .disable) (h2 : op.act ≠ .mark .enable) (d : Nat) : deafStep g d op = d := by
  unfold deafStep
  split
  · rename_i h; exact absurd h h1
  · rename_i h; exact absurd h h2
  · rfl
def NoL : Loc → Prop := fun _ => False
def NoG : Nat → Prop := fun _ => False
def At0 : Nat → Prop := fun i => i = 0
/-- What is held of the trace while goroutine 0 alone writes. -/
def PastE (Still : Loc → Prop) (Mem Loose : Nat → Prop) (t : Trace) : Prop := ∃ B, PastH Still Mem Loose B 0 t
section
variable {Still : Loc → Prop} {Mem Loose : Nat → Prop} {t u : Trace}
theorem PastE.app0 (H : PastE Still Mem Loose t) (h0 : Mem 0) (hu : ∀ op ∈ u, op.g = 0) (hs : ∀ op ∈ u, ∀ b, op.act.touch? = some b → Still b.loc → b.write = false) (hq : ∀ op ∈ u, ∀ d, deafStep 0 d op = d) : PastE Still Mem Loose (t ++ u) := by
  obtain ⟨B, H⟩ := H
  obtain ⟨B', hB'⟩ := low_some u
  exact ⟨max B B', PastH.appH (PastG.mono H (Nat.le_max_left _ _)) hu hs (Deaf_quiet hq) (fun op hop => MemAct.low_mono (Nat.le_max_right _ _) (hB' op hop))⟩
theorem PastE.read {g : Nat} (H : PastE Still Mem Loose t) (hg : Mem g) (hL : Loose g) (hu : ∀ op ∈ u, op.g = g) (hr : ∀ op ∈ u, ∀ b, op.act.touch? = some b → b.write = false ∧ Still b.loc) (hq : ∀ op ∈ u, ∀ d, deafStep g d op = d) : PastE Still Mem Loose (t ++ u) := by
  obtain ⟨B, H⟩ := H
  obtain ⟨B', hB'⟩ := low_some u
  exact ⟨max B B', PastH.appRead (PastG.mono H (Nat.le_max_left _ _)) hg hL hu hr (Deaf_quiet hq) (fun op hop => MemAct.low_mono (Nat.le_max_right _ _) (hB' op hop))⟩
/-- Operations that touch nothing, whoever makes them. -/
theorem PastE.mute (H : PastE Still Mem Loose t) (hn : ∀ op ∈ u, op.act.touch? = none) (hq : ∀ g, Mem g → ∀ op ∈ u, ∀ d, deafStep g d op = d) : PastE Still Mem Loose (t ++ u) := by
  obtain ⟨B, H⟩ := H
  obtain ⟨B', hB'⟩ := low_some u
  have H := PastG.mono H (Nat.le_max_left B B')
  refine ⟨max B B', fun said => noRace_appendMute (H.clean said) hn, fun i a ha hm => ?_, fun i a ha hw hS g hg => ?_, fun g hg => (Deaf_quiet (hq g hg)).trans (H.hears g hg), seen_app H.seen fun op hop => MemAct.low_mono (Nat.le_max_right _ _) (hB' op hop)⟩
  · obtain ⟨x, hx, hxa⟩ := touch_of ha
    rcases getElem?_append_cases hx with ⟨_, hx'⟩ | ⟨_, hxu⟩
    · exact PastG.old_known H (fun i => Knows.app u) hx' hxa hm
    · rw [hn x hxu] at hxa; cases hxa
  · obtain ⟨x, hx, hxa⟩ := touch_of ha
    rcases getElem?_append_cases hx with ⟨_, hx'⟩ | ⟨_, hxu⟩
    · exact (H.wrote i a (by rw [touchAt_of hx']; exact hxa) hw hS g hg).app u
    · rw [hn x hxu] at hxa; cases hxa
/-- Goroutine g has closed channel c and has touched nothing since; goroutine 0 finds it closed: g is loose no more. -/
theorem PastE.found {c g : Nat} (H : PastE Still Mem Loose t) (h0 : Mem 0) {pc : Nat} {opc : MemOp} (hpc : t[pc]? = some opc) (hg : opc.g = g) (hact : opc.act = .close c) (hheard : t.heard pc)
    (hlast : ∀ i op, t[i]? = some op → op.g = g → op.act.touch? ≠ none → i < pc) (fn : FuncId) (pos : String) :
    PastE Still Mem (fun x => Loose x ∧ x ≠ g) (t ++ #[{ g := 0, fn := fn, pos := pos, act := .recvClosed c }]) := by
  obtain ⟨B, H⟩ := H
  generalize hu : (#[{ g := 0, fn := fn, pos := pos, act := .recvClosed c }] : Trace) = u
  have hn : ∀ op ∈ u, op.act.touch? = none := by
    intro op hop
    subst hu
    simp only [List.mem_toArray, List.mem_cons, List.not_mem_nil, or_false] at hop
    subst hop; rfl
  have hq : ∀ g, ∀ op ∈ u, ∀ d, deafStep g d op = d := by
    intro g op hop d
    subst hu
    simp only [List.mem_toArray, List.mem_cons, List.not_mem_nil, or_false] at hop
    subst hop; rfl
  have e0 : (t ++ u)[t.size]? = some { g := 0, fn := fn, pos := pos, act := .recvClosed c } := by subst hu; simp
  have hlt := lt_size_of_getElem? hpc
  have hpc' : (t ++ u)[pc]? = some opc := by rw [getElem?_append_old hlt]; exact hpc
  have edge : HappensBefore (t ++ u) pc t.size :=
    Relation.TransGen.single (.inr ⟨.closed (by rw [act?_of hpc', hact]) (act?_of e0), (heard_old hlt).2 hheard, ⟨0, g?_of e0, by rw [deaf_old (Nat.le_refl _)]; exact H.hears 0 h0⟩⟩)
  obtain ⟨B', hB'⟩ := low_some u
  have H := PastG.mono H (Nat.le_max_left B B')
  refine ⟨max B B', fun said => noRace_appendMute (H.clean said) hn, fun i a ha hm => ?_, fun i a ha hw hS g hg => ?_, fun g hg => (Deaf_quiet (hq g)).trans (H.hears g hg), seen_app H.seen fun op hop => MemAct.low_mono (Nat.le_max_right _ _) (hB' op hop)⟩
  · obtain ⟨x, hx, hxa⟩ := touch_of ha
    rcases getElem?_append_cases hx with ⟨hi, hx'⟩ | ⟨_, hxu⟩
    · rcases H.known i a (by rw [touchAt_of hx']; exact hxa) hm with hk | ⟨p, q, g', hg', hl⟩
      · exact .inl (hk.app u)
      · by_cases e : g' = g
        · subst e
          have hxg : x.g = g' := by have := g?_of hx'; rw [hg'] at this; exact (Option.some.inj this).symm
          have hlt' := hlast i x hx' hxg (by rw [hxa]; simp)
          exact .inl ⟨t.size, _, e0, rfl, .inr ((hb_po hlt' hx hpc' (hxg.trans hg.symm)).trans edge)⟩
        · exact .inr ⟨p, q, g', by rw [g?_old hi]; exact hg', hl, e⟩
    · rw [hn x hxu] at hxa; cases hxa
  · obtain ⟨x, hx, hxa⟩ := touch_of ha
    rcases getElem?_append_cases hx with ⟨_, hx'⟩ | ⟨_, hxu⟩
    · exact (H.wrote i a (by rw [touchAt_of hx']; exact hxa) hw hS g hg).app u
    · rw [hn x hxu] at hxa; cases hxa
end
theorem ev_ops0 {es : Array Event} (h : Ev es) (g : Nat) (fn : FuncId) (pos : String) : (∀ op ∈ MemOp.ofEvents g fn pos es, op.g = g) ∧ ∀ op ∈ MemOp.ofEvents g fn pos es, ∀ g' d, deafStep g' d op = d := by
  refine ⟨fun op hop => ?_, fun op hop g' d => ?_⟩ <;> obtain ⟨e, he, rfl⟩ := Go.Conc.mem_ofEvents hop
  · rfl
  · have hw := ofEvent_noMark (h e he)
    exact deafStep_still (fun e => (hw _ e).ne_disable rfl) (fun e => (hw _ e).ne_enable rfl) d
structure Frm (P : Program) (Sp : Nat → Prop) (Still : Loc → Prop) (Mem Loose : Nat → Prop) (t : Trace) (gs : Array Goroutine) (q : Nat → Nat) : Prop where
  old : ∀ i g, ¬ Sp i → gs[i]? = some g → 0 < i ∧ QuitsD P (q i) (Deaf t i) g
  above : ∀ j, gs.size ≤ j → Deaf t j = 0
  past : PastE Still Mem Loose t
  mem : ∀ i, Mem i → Sp i
section
variable {P : Program} {Sp : Nat → Prop} {Still : Loc → Prop} {Mem Loose : Nat → Prop} {t : Trace} {gs : Array Goroutine} {q : Nat → Nat}
theorem Frm.turn (F : Frm P Sp Still Mem Loose t gs q) {gs' : Array Goroutine} {u : Trace} {Still' : Loc → Prop} {Mem' Loose' : Nat → Prop} (hsz : gs'.size = gs.size) (hoth : ∀ x, ¬ Sp x → gs'[x]? = gs[x]?)
    (hu : ∀ op ∈ u, Sp op.g ∧ op.g < gs.size) (hp : PastE Still' Mem' Loose' (t ++ u)) (hm : ∀ i, Mem' i → Sp i) : Frm P Sp Still' Mem' Loose' (t ++ u) gs' q := by
  refine ⟨fun i g hi hg => ?_, fun j hj => ?_, hp, hm⟩
  · rw [hoth i hi] at hg
    obtain ⟨h0, hq⟩ := F.old i g hi hg
    refine ⟨h0, ?_⟩
    rw [Deaf_quiet fun op hop d => deafStep_ne (fun e => hi (by rw [← e]; exact (hu op hop).1)) d]
    exact hq
  · rw [Deaf_quiet fun op hop d => deafStep_ne (fun e => by have := (hu op hop).2; omega) d]
    exact F.above j (by omega)
theorem map_woken {g g' : Goroutine} {w' : World} {i : Nat} (h : ∀ x y, x ≠ i → gs[x]? = some y → y.again w' = y) (gi : Goroutine) (x : Nat) (hx : x ≠ i) :
    ((gs.map (woken P g g' w')).setIfInBounds i gi)[x]? = gs[x]? := by
  rw [Array.getElem?_setIfInBounds_ne (fun e => hx e.symm), Array.getElem?_map]
  cases e : gs[x]? with
  | none => rfl
  | some y =>
    simp only [Option.map_some]
    unfold woken
    split
    · rw [h x y hx e]
    · rfl
theorem Frm.again (F : Frm P Sp Still Mem Loose t gs q) {x : Nat} {y : Goroutine} (hx : ¬ Sp x) (hy : gs[x]? = some y) (w : World) : y.again w = y := again_running w (F.old x y hx hy).2.status
/-- A leaver slips. -/
theorem Frm.slip (F : Frm P Sp Still Mem Loose t gs q) {i : Nat} {g : Goroutine} {w : World} {sl : Option (Nat × Nat)} (hi : gs[i]? = some g) (hsp : ¬ Sp i) (hrun : g.status = .running)
    (hsA : ∀ x gx, Sp x → gs[x]? = some gx → gx.again w = gx) :
    ∃ gs' ops q', runT P (crowd gs w sl) i = (.next (crowd gs' w sl), ops) ∧ gs'.size = gs.size ∧ (∀ x, Sp x → gs'[x]? = gs[x]?) ∧ Frm P Sp Still Mem Loose (t ++ ops) gs' q' ∧ sumTo gs'.size q' < sumTo gs.size q ∧
      (∀ op ∈ ops, op.g = i ∧ op.act.touch? = none) := by
  have hlt : i < gs.size := (Array.getElem?_eq_some_iff.1 hi).1
  obtain ⟨hpos, hq⟩ := F.old i g hsp hi
  have hi0 : (i == 0) = false := by simp; omega
  cases hqi : q i with
  | zero => rw [hqi] at hq; rw [hq.1] at hrun; cases hrun
  | succ k =>
    rw [hqi] at hq
    rcases hq with ⟨hf, _⟩ | ⟨_, g', es, hm, hstp, hq'⟩
    · rw [hf] at hrun; cases hrun
    have hrunT := runT_crowd_go (P := P) (sl := sl) (i := i) hi (by rw [hi0]; exact hstp w)
    have hfix := map_woken (P := P) (gs := gs) (g := g) (g' := g') (w' := w) (i := i) (fun x y hx hy => by
      by_cases h : Sp x
      · exact hsA x y h hy
      · exact F.again h hy w) g'
    have hops : ∀ op ∈ MemOp.ofEvents i g.frame.fn g.frame.place es, op.g = i := fun op hop => by obtain ⟨e, _, rfl⟩ := Go.Conc.mem_ofEvents hop; rfl
    have htch : ∀ op ∈ MemOp.ofEvents i g.frame.fn g.frame.place es, op.act.touch? = none := fun op hop => by obtain ⟨e, he, rfl⟩ := Go.Conc.mem_ofEvents hop; exact touch_mute (hm e he)
    refine ⟨_, _, upd q i k, hrunT, by simp, fun x hx => hfix x (fun e => hsp (e ▸ hx)), ⟨fun x y hx hy => ?_, fun j hj => ?_, ?_, F.mem⟩, ?_, fun op hop => ⟨hops op hop, htch op hop⟩⟩
    · by_cases e : x = i
      · subst e
        rw [Array.getElem?_setIfInBounds_self_of_lt (by simpa using hlt)] at hy
        obtain rfl := Option.some.inj hy
        rw [upd_same, Deaf_own]
        exact ⟨hpos, hq'⟩
      · rw [hfix x e] at hy
        rw [upd_ne q k e, Deaf_other t (fun z => e z.symm) _ hops]
        exact F.old x y hx hy
    · rw [Deaf_other t (g' := i) (by simp at hj; omega) _ hops]
      exact F.above j (by simpa using hj)
    · exact F.past.mute htch fun g' hg' op hop d => deafStep_ne (fun e => hsp (by rw [← hops op hop, e]; exact F.mem _ hg')) d
    · have h2 : sumTo gs.size (upd q i k) + (k + 1) = sumTo gs.size q + k := by
        have := sumTo_upd q k id hlt
        simpa [hqi] using this
      have : ((gs.map (woken P g g' w)).setIfInBounds i g').size = gs.size := by simp
      rw [this]
      omega
/-! ### a walk of goroutine 0's beside leavers -/
/-- The frame between two calls that go. -/
abbrev Frm0 (P : Program) (t : Trace) (gs : Array Goroutine) (q : Nat → Nat) : Prop := Frm P At0 NoL At0 NoG t gs q
theorem Frm0.begin (P : Program) (a : Goroutine) : Frm0 P #[] #[a] (fun _ => 0) := by
  refine ⟨fun i g hi hg => ?_, fun j hj => rfl, ⟨0, PastH.ofPast past_nil (fun l h => h.elim)⟩, fun i h => h⟩
  have : i < 1 := by simpa using (Array.getElem?_eq_some_iff.1 hg).1
  exact absurd (show i = 0 by omega) hi
theorem Frm0.awake (F : Frm0 P t gs q) {a : Goroutine} (h0 : gs[0]? = some a) (hrun : a.status = .running) : ∀ g ∈ gs, awake g := by
  intro g hg
  obtain ⟨i, hi, rfl⟩ := Array.mem_iff_getElem.1 hg
  by_cases h : i = 0
  · subst h
    have : gs[0] = a := by simpa [Array.getElem?_eq_getElem hi] using h0
    rw [this]; exact awake_of (.inl hrun)
  · exact awake_of ((F.old i _ h (Array.getElem?_eq_getElem hi)).2.status.elim .inl fun x => .inr (.inr x))
theorem Frm0.step {a a' : Goroutine} {w' : World} {es : Array Event} (F : Frm0 P t gs q) (h0 : gs[0]? = some a) (he : Ev es) :
    ((gs.map (woken P a a' w')).setIfInBounds 0 a')[0]? = some a' ∧ ((gs.map (woken P a a' w')).setIfInBounds 0 a').size = gs.size ∧
      Frm0 P (t ++ MemOp.ofEvents 0 a.frame.fn a.frame.place es) ((gs.map (woken P a a' w')).setIfInBounds 0 a') q := by
  have hlt : 0 < gs.size := (Array.getElem?_eq_some_iff.1 h0).1
  obtain ⟨ho, hd⟩ := ev_ops0 he 0 a.frame.fn a.frame.place
  refine ⟨Array.getElem?_setIfInBounds_self_of_lt (by simpa using hlt), by simp, ?_⟩
  refine F.turn (by simp) (fun x hx => map_woken (fun y z hy hz => F.again (fun e => hy e) hz _) _ x hx) (fun op hop => ⟨ho op hop, by rw [ho op hop]; exact hlt⟩) ?_ F.mem
  exact F.past.app0 rfl ho (fun op hop b _ hb => hb.elim) (fun op hop d => hd op hop 0 d)
theorem walkW {Stop : Goroutine → World → Prop} {a : Goroutine} {w : World} (hG : GoesW P true AtRel D0 Stop a w) :
    ∀ (w₀ : World) (gs : Array Goroutine) (sl : Option (Nat × Nat)) (t : Trace) (q : Nat → Nat), AtRel w w₀ → gs[0]? = some a → Frm0 P t gs q →
      ∃ (N : Nat) (gs' : Array Goroutine) (a' : Goroutine) (w' : World) (sl' : Option (Nat × Nat)) (t' : Trace) (q' : Nat → Nat),
        runNT P N (crowd gs w₀ sl) t = (.next (crowd gs' w' sl'), t') ∧ gs'.size = gs.size ∧ gs'[0]? = some a' ∧ Stop a' w' ∧ Frm0 P t' gs' q' := by
  induction hG with
  | stop h => exact fun w₀ gs sl t q hr h0 F => ⟨0, gs, _, w₀, sl, t, q, rfl, rfl, h0, h w₀ hr, F⟩
  | @step a w hs hgo _ ih =>
    have inner : ∀ (M : Nat) (w₀ : World) (gs : Array Goroutine) (sl : Option (Nat × Nat)) (t : Trace) (q : Nat → Nat), sumTo gs.size q ≤ M → AtRel w w₀ → gs[0]? = some a → Frm0 P t gs q →
      ∃ (N : Nat) (gs' : Array Goroutine) (a' : Goroutine) (w' : World) (sl' : Option (Nat × Nat)) (t' : Trace) (q' : Nat → Nat),
        runNT P N (crowd gs w₀ sl) t = (.next (crowd gs' w' sl'), t') ∧ gs'.size = gs.size ∧ gs'[0]? = some a' ∧ Stop a' w' ∧ Frm0 P t' gs' q' := by
      intro M
      induction M with
      | zero =>
        intro w₀ gs sl t q hM hr h0 F
        obtain ⟨i, g, d, sl', hi, hg, hst⟩ := crowd_pick (P := P) (w := w₀) (sl := sl) (F.awake h0 hs) ⟨0, a, h0, hs⟩
        by_cases h : i = 0
        · subst h
          obtain rfl : g = a := by rw [h0] at hi; exact (Option.some.inj hi).symm
          obtain ⟨a', w', es, hstep, he⟩ := hgo _ (atRel_trans _ _ _ hr ⟨d, rfl⟩)
          obtain ⟨h0', hsz, F'⟩ := F.step (a' := a') (w' := w') h0 he
          obtain ⟨N, gs', a'', w'', sl'', t', q', hrun, hsz', hz, hS, F''⟩ := ih _ a' w' es (atRel_trans _ _ _ hr ⟨d, rfl⟩) hstep w' _ sl' _ q (atRel_refl _) h0' F'
          exact ⟨N + 1, gs', a'', w'', sl'', t', q', by simp only [runNT, hst, runT_crowd_go (P := P) (sl := sl') (i := 0) hi hstep]; exact hrun, hsz'.trans hsz, hz, hS, F''⟩
        · obtain ⟨gs', ops, q', _, _, _, _, hlt, _⟩ := F.slip (w := w₀.at d) (sl := sl') hi h hg (fun x gx hx hgx => by
            obtain rfl : x = 0 := hx
            rw [h0] at hgx
            obtain rfl := Option.some.inj hgx
            exact again_running _ (.inl hs))
          omega
      | succ M ihM =>
        intro w₀ gs sl t q hM hr h0 F
        obtain ⟨i, g, d, sl', hi, hg, hst⟩ := crowd_pick (P := P) (w := w₀) (sl := sl) (F.awake h0 hs) ⟨0, a, h0, hs⟩
        by_cases h : i = 0
        · subst h
          obtain rfl : g = a := by rw [h0] at hi; exact (Option.some.inj hi).symm
          obtain ⟨a', w', es, hstep, he⟩ := hgo _ (atRel_trans _ _ _ hr ⟨d, rfl⟩)
          obtain ⟨h0', hsz, F'⟩ := F.step (a' := a') (w' := w') h0 he
          obtain ⟨N, gs', a'', w'', sl'', t', q', hrun, hsz', hz, hS, F''⟩ := ih _ a' w' es (atRel_trans _ _ _ hr ⟨d, rfl⟩) hstep w' _ sl' _ q (atRel_refl _) h0' F'
          exact ⟨N + 1, gs', a'', w'', sl'', t', q', by simp only [runNT, hst, runT_crowd_go (P := P) (sl := sl') (i := 0) hi hstep]; exact hrun, hsz'.trans hsz, hz, hS, F''⟩
        · obtain ⟨gs₁, ops, q₁, hrunT, hsz₁, hsp₁, F₁, hlt, _⟩ := F.slip (w := w₀.at d) (sl := sl') hi h hg (fun x gx hx hgx => by
            obtain rfl : x = 0 := hx
            rw [h0] at hgx
            obtain rfl := Option.some.inj hgx
            exact again_running _ (.inl hs))
          obtain ⟨N, gs', a'', w'', sl'', t', q', hrun, hsz', hz, hS, F''⟩ := ihM (w₀.at d) gs₁ sl' (t ++ ops) q₁ (by omega) (atRel_trans _ _ _ hr ⟨d, rfl⟩) (by rw [hsp₁ 0 rfl]; exact h0) F₁
          exact ⟨N + 1, gs', a'', w'', sl'', t', q', by simp only [runNT, hst, hrunT]; exact hrun, hsz'.trans hsz₁, hz, hS, F''⟩
    exact fun w₀ gs sl t q => inner _ w₀ gs sl t q (Nat.le_refl _)
/-- THE END: goroutine 0's bottom frame stands at its return. -/
theorem endsW {R : Value → World → Prop} (hB : ∀ v w d, R v w → R v (w.at d)) {a : Goroutine} {w : World} (sl : Option (Nat × Nat)) (h0 : gs[0]? = some a) (F : Frm0 P t gs q) {f : FuncId} (hA : AtLeave P f R [] a w) (hi : P.inits.idxOf? f = none) :
    ∃ N last o w' t', runNT P (N + 1) (crowd gs w sl) t = (.ended o w', t') ∧ runN P N (crowd gs w sl) = .next last ∧ step P last = .ended o w' ∧ Good P R last o w' t' := by
  obtain ⟨fr, v, rfl, hl, rfl, hR⟩ := hA
  have hin := hi
  obtain ⟨B, hP⟩ := F.past
  have hP := hP.toPast rfl (fun _ h => h)
  obtain ⟨h1, h2, h3, fn, hfn, hr⟩ := hl
  -- what the return lists, the same at every count of draws
  have hs := still_results fn fr.tmps
  have key : ∀ d, stepG P true (G fr []) (w.at d) = .ended (.done v) (w.at d) (seen P fr.fn ((results fn fr.tmps).runT P w #[]).2 ++ #[]) := by
    intro d
    obtain ⟨_, _, h4⟩ := runT_on P (results fn fr.tmps) hs w #[]
    have e : ((results fn fr.tmps).runT P w #[]).1 = .ok v w := by rw [← hr]; exact Sem.runT_fst ..
    have h5 := h4 w.tape d (by rw [e]; intro i hi; simp [Result.world] at hi)
    rw [e] at h5
    rw [stepG_unwind (by rw [h1]; simp)]
    unfold unwind
    simp only [h2, h1, hfn]
    have e2 : (results fn fr.tmps).runT P (w.at d) #[] = (.ok v (w.at d), ((results fn fr.tmps).runT P w #[]).2) := by
      have : (w.at d) = w.on w.tape d := rfl
      rw [this, h5]
      simp [Result.on, Result.world]
    rw [e2]
    simp only [doReturn, h3, hin]
    rfl
  have hev : Ev (seen P fr.fn ((results fn fr.tmps).runT P w #[]).2 ++ #[]) := (ev_seen (runT_ev P _ hs w #[] ev_nil)).app ev_nil
  obtain ⟨B', hB'⟩ := low_some (MemOp.ofEvents 0 fr.fn fr.place (seen P fr.fn ((results fn fr.tmps).runT P w #[]).2 ++ #[]))
  have hlow : ∀ e ∈ (seen P fr.fn ((results fn fr.tmps).runT P w #[]).2 ++ #[]), (MemAct.ofEvent e).low B' := by
    intro e he
    refine hB' { g := 0, fn := fr.fn, pos := fr.place, act := .ofEvent e } ?_
    rw [ofEvents_eq]
    exact Array.mem_map.2 ⟨e, he, rfl⟩
  refine beside_ends (P := P) (Shun := fun _ => False) (B := max B B') (D := fun _ _ es => ∀ e ∈ es, EvL (fun _ => False) (max B B') e) (Post := R) (fun _ _ _ h => h) (n := 0) h0 ⟨fun i g hpos hg => (F.old i g (fun e => by rw [show i = 0 from e] at hpos; omega) hg).2, F.above⟩ (hP.mono (Nat.le_max_left _ _)) ?_
  rintro _ ⟨d, rfl⟩
  refine ⟨rfl, v, _, key d, fun e he => ⟨fun _ _ h => h.elim, fun h => (hev e he _ h).ne_disable rfl, fun h => (hev e he _ h).ne_enable rfl, MemAct.low_mono (Nat.le_max_right _ _) (hlow e he)⟩, hB v w d hR⟩
end
end Go.Proofs.Ytaeaacdjiijooaa.Lift

namespace Go.Proofs.Ytaeaacdjiijooaa.Lift
open Go Go.Conc
open Go.ConcN (sumTo upd sumTo_upd upd_ne upd_same)
set_option linter.unusedVariables false
/-! ### a sender and a receiver beside leavers -/
theorem runs_untilW {P : Program} {α : Type} {r : α → α → Prop} (wf : WellFounded r) {Inv : α → Machine → Trace → Prop} {Done : Machine → Trace → Prop}
    (step : ∀ μ m t, Inv μ m t → Done m t ∨ ∃ m' ops μ', stepT P m = (.next m', ops) ∧ r μ' μ ∧ Inv μ' m' (t ++ ops)) :
    ∀ μ m t, Inv μ m t → ∃ N m' t', runNT P N m t = (.next m', t') ∧ Done m' t' := by
  intro μ
  induction μ using wf.induction with
  | _ μ ih =>
    intro m t h
    rcases step μ m t h with hd | ⟨m', ops, μ', hs, hlt, hI⟩
    · exact ⟨0, m, t, rfl, hd⟩
    · obtain ⟨N, m'', t'', hr, hd⟩ := ih μ' hlt m' (t ++ ops) hI
      exact ⟨N + 1, m'', t'', by simp only [runNT, hs]; exact hr, hd⟩
/-! The sender's script; it may draw from the tape. -/
section
variable (P : Program) (c : Nat) (S : World → Prop) (Mine : Loc → Prop)
def DBr (w w' : World) (es : Array Event) : Prop := AtRel w w' ∧ ∀ e ∈ es, EvB Mine e
def SendsR : List Value → Goroutine → Prop
  | [], g => ∃ n, Goes P false (fun _ w₁ => S w₁) (DBr Mine) (fun g₁ _ => AtClose P c S Mine g₁) n g default
  | v :: vs, g => ∃ n, Goes P false (fun _ w₁ => S w₁) (DBr Mine) (fun g₁ _ => AtSend P c S Mine v (SendsR vs) g₁) n g default
def StopBR : List Value → Goroutine → World → Prop
  | [] => fun g₁ _ => AtClose P c S Mine g₁
  | v :: vs => fun g₁ _ => AtSend P c S Mine v (SendsR P c S Mine vs) g₁
theorem sendsR_iff (vs : List Value) (g : Goroutine) : SendsR P c S Mine vs g ↔ ∃ n, Goes P false (fun _ w₁ => S w₁) (DBr Mine) (StopBR P c S Mine vs) n g default := by
  cases vs <;> exact Iff.rfl
def SitBR (vs : List Value) (rb : Nat) (b : Goroutine) : Prop :=
  (∃ n, rb = n + 1 ∧ Goes P false (fun _ w₁ => S w₁) (DBr Mine) (StopBR P c S Mine vs) n b default) ∨
  (rb = 0 ∧ ∃ v vs' g₂ z', vs = v :: vs' ∧ b = parked g₂ #[scase c v z'] .send ∧ SendsR P c S Mine vs' (Go.Conc.served g₂ undef))
end
theorem StopBR.running {P : Program} {c : Nat} {S : World → Prop} {Mine : Loc → Prop} {vs : List Value} {g : Goroutine} {w : World} (h : StopBR P c S Mine vs g w) : g.status = .running := by cases vs <;> exact h.1
theorem SitBR.status {P : Program} {c : Nat} {S : World → Prop} {Mine : Loc → Prop} {vs : List Value} {rb : Nat} {b : Goroutine} {w : World} (hS : S w) (h : SitBR P c S Mine vs rb b) : (b.status = .running ∧ 0 < rb) ∨ (b.status = .blocked ∧ rb = 0) := by
  rcases h with ⟨n, e, hg⟩ | ⟨e, v, vs', g, z', _, rfl, _⟩
  · exact .inl ⟨hg.running (fun _ _ => StopBR.running) w hS, by omega⟩
  · exact .inr ⟨rfl, e⟩
/-- What the two share, and the sender alone reads. -/
def Own (Still : Loc → Prop) : Loc → Prop := fun l => ¬ Still l
def AtOr (k : Nat) : Nat → Prop := fun i => i = 0 ∨ i = k
section
variable {Still : Loc → Prop}
theorem evA_ops {es : Array Event} (h : ∀ e ∈ es, EvA (Own Still) e) (fn : FuncId) (pos : String) :
    (∀ op ∈ MemOp.ofEvents 0 fn pos es, op.g = 0) ∧ (∀ op ∈ MemOp.ofEvents 0 fn pos es, ∀ b, op.act.touch? = some b → Still b.loc → b.write = false) ∧ ∀ op ∈ MemOp.ofEvents 0 fn pos es, ∀ g d, deafStep g d op = d := by
  obtain ⟨h1, h2⟩ := ev_ops0 (fun e he => (h e he).1) 0 fn pos
  refine ⟨h1, fun op hop b hb hS => ?_, h2⟩
  obtain ⟨e, he, rfl⟩ := Go.Conc.mem_ofEvents hop
  obtain ⟨e1, e2⟩ := ofEvent_touch (h e he).1 hb
  cases hw : b.write with
  | false => rfl
  | true => exact absurd (e1 ▸ hS) ((h e he).2 (e2 ▸ hw))
theorem evB_ops {es : Array Event} (h : ∀ e ∈ es, EvB (Own Still) e) (g : Nat) (fn : FuncId) (pos : String) :
    (∀ op ∈ MemOp.ofEvents g fn pos es, op.g = g) ∧ (∀ op ∈ MemOp.ofEvents g fn pos es, ∀ b, op.act.touch? = some b → b.write = false ∧ Still b.loc) ∧ ∀ op ∈ MemOp.ofEvents g fn pos es, ∀ g d, deafStep g d op = d := by
  obtain ⟨h1, h2⟩ := ev_ops0 (fun e he => (h e he).1) g fn pos
  refine ⟨h1, fun op hop b hb => ?_, h2⟩
  obtain ⟨e, he, rfl⟩ := Go.Conc.mem_ofEvents hop
  obtain ⟨e1, e2⟩ := ofEvent_touch (h e he).1 hb
  exact ⟨by rw [e2]; exact (h e he).2.1, by rw [e1]; exact Classical.not_not.1 (h e he).2.2⟩
end
theorem met_quiet4 (u : Trace) (h : ∀ op ∈ u, op.act.touch? = none ∧ ∀ m, op.act ≠ .mark m) : (∀ op ∈ u, op.act.touch? = none) ∧ ∀ g, ∀ op ∈ u, ∀ d, deafStep g d op = d :=
  ⟨fun op hop => (h op hop).1, fun g op hop d => deafStep_still ((h op hop).2 _) ((h op hop).2 _) d⟩
/-- Goroutine k has closed channel c, and has touched nothing since. -/
def ClosedBy (c k : Nat) (t : Trace) : Prop := ∃ pc opc, t[pc]? = some opc ∧ opc.g = k ∧ opc.act = .close c ∧ t.heard pc ∧ ∀ i op, t[i]? = some op → op.g = k → op.act.touch? ≠ none → i < pc
theorem ClosedBy.app {c k : Nat} {t u : Trace} (h : ClosedBy c k t) (hu : ∀ op ∈ u, op.g = k → op.act.touch? = none) : ClosedBy c k (t ++ u) := by
  obtain ⟨pc, opc, h1, h2, h3, h4, h5⟩ := h
  have hlt := lt_size_of_getElem? h1
  refine ⟨pc, opc, by rw [getElem?_append_old hlt]; exact h1, h2, h3, (heard_old hlt).2 h4, fun i op hi hg ht => ?_⟩
  rcases getElem?_append_cases hi with ⟨_, hi'⟩ | ⟨_, hm⟩
  · exact h5 i op hi' hg ht
  · exact absurd (hu op hm hg) ht
section
variable {P : Program} {c : Nat} {S : World → Prop} {Still : Loc → Prop} {z : Value} {Fin : Goroutine → World → Prop} {k : Nat}
variable (P c S Still z Fin k) in
inductive PInv : Nat × Nat → Machine → Trace → Prop
  | opn (vs : List Value) (a b : Goroutine) (w : World) (sl : Option (Nat × Nat)) (t : Trace) (gs : Array Goroutine) (q : Nat → Nat) (s r : Nat) (tm : Bool) (ra rb : Nat)
      (h0 : gs[0]? = some a) (hk : gs[k]? = some b) (hS : S w) (hc : w.heap[c]? = some (.chan 0 #[] false s r tm)) (hA : SitA P c S (Own Still) z Fin vs ra a w) (hB : SitBR P c S (Own Still) vs rb b) (hpos : 0 < ra + rb)
      (F : Frm P (AtOr k) Still (AtOr k) (fun i => i = k) t gs q) : PInv (vs.length + 2, ra + rb + sumTo gs.size q) (crowd gs w sl) t
  | shut (a : Goroutine) (w : World) (sl : Option (Nat × Nat)) (t : Trace) (gs : Array Goroutine) (q : Nat → Nat) (s r : Nat) (tm : Bool) (n : Nat)
      (h0 : gs[0]? = some a) (hc : w.heap[c]? = some (.chan 0 #[] true s r tm)) (hA : Goes P true (Aside c) (DA c S (Own Still)) (StopA P c S (Own Still) z Fin []) n a w)
      (F : Frm P At0 Still At0 (fun i => i = k) t gs q) (hC : ClosedBy c k t) : PInv (1, n + sumTo gs.size q) (crowd gs w sl) t
  | fin (a : Goroutine) (w : World) (sl : Option (Nat × Nat)) (t : Trace) (gs : Array Goroutine) (q : Nat → Nat)
      (h0 : gs[0]? = some a) (hF : Fin a w) (F : Frm0 P t gs q) : PInv (0, 0) (crowd gs w sl) t
variable (P Fin) in
def PDone (n : Nat) (m : Machine) (t : Trace) : Prop := ∃ gs a w sl q, m = crowd gs w sl ∧ gs.size = n ∧ gs[0]? = some a ∧ Fin a w ∧ Frm0 P t gs q
theorem atOr_awake {a b : Goroutine} {t : Trace} {gs : Array Goroutine} {q : Nat → Nat} {Mem Loose : Nat → Prop} {w : World} (h0 : gs[0]? = some a) (hk : gs[k]? = some b) (ha : a.status = .running ∨ a.status = .blocked) (hb : b.status = .running ∨ b.status = .blocked)
    (F : Frm P (AtOr k) Still Mem Loose t gs q) : ∀ g ∈ gs, awake g := by
  intro g hg
  obtain ⟨i, hi, rfl⟩ := Array.mem_iff_getElem.1 hg
  by_cases h : i = 0
  · subst h
    have : gs[0] = a := by simpa [Array.getElem?_eq_getElem hi] using h0
    rw [this]; exact awake_of (ha.elim .inl fun h => .inr (.inl h))
  · by_cases h' : i = k
    · subst h'
      have : gs[i] = b := by simpa [Array.getElem?_eq_getElem hi] using hk
      rw [this]; exact awake_of (hb.elim .inl fun h => .inr (.inl h))
    · exact awake_of ((F.old i _ (fun e => e.elim h h') (Array.getElem?_eq_getElem hi)).2.status.elim .inl fun x => .inr (.inr x))
/-- What the others offer at a channel: nothing. -/
theorem others_none {t : Trace} {gs : Array Goroutine} {q : Nat → Nat} {Mem Loose : Nat → Prop} (F : Frm P (AtOr k) Still Mem Loose t gs q) {x : Nat} {y : Goroutine} (h0 : x ≠ 0) (hk : x ≠ k) (hy : gs[x]? = some y) (c : Nat) (b : Bool) : offersAt y c b = [] :=
  offersAt_of_not_blocked (fun h => by rcases (F.old x y (fun e => e.elim h0 hk) hy).2.status with e | e <;> rw [e] at h <;> cases h) c b
theorem step_opnC (hk0 : k ≠ 0) (hSt : ∀ w w₁, Aside c w w₁ → S w → S w₁) {vs : List Value} {a b : Goroutine} {w : World} {sl : Option (Nat × Nat)} {t : Trace} {gs : Array Goroutine} {q : Nat → Nat} {s r : Nat} {tm : Bool} {ra rb : Nat}
    (h0 : gs[0]? = some a) (hk : gs[k]? = some b) (hS : S w) (hc : w.heap[c]? = some (.chan 0 #[] false s r tm)) (hA : SitA P c S (Own Still) z Fin vs ra a w) (hB : SitBR P c S (Own Still) vs rb b) (hpos : 0 < ra + rb)
    (F : Frm P (AtOr k) Still (AtOr k) (fun i => i = k) t gs q) :
    ∃ gs' w' sl' ops μ', stepT P (crowd gs w sl) = (.next (crowd gs' w' sl'), ops) ∧ gs'.size = gs.size ∧ Lt2 μ' (vs.length + 2, ra + rb + sumTo gs.size q) ∧ PInv P c S Still z Fin k μ' (crowd gs' w' sl') (t ++ ops) := by
  have sA := hA.status
  have sB := hB.status hS
  have hsa : a.status = .running ∨ a.status = .blocked := sA.imp And.left And.left
  have hsb : b.status = .running ∨ b.status = .blocked := sB.imp And.left And.left
  have some1 : ∃ (i : Nat) (g : Goroutine), gs[i]? = some g ∧ g.status = .running := by
    rcases sA with ⟨h, _⟩ | ⟨_, e0⟩
    · exact ⟨0, a, h0, h⟩
    · rcases sB with ⟨h, _⟩ | ⟨_, e1⟩
      · exact ⟨k, b, hk, h⟩
      · omega
  have hlt0 : 0 < gs.size := (Array.getElem?_eq_some_iff.1 h0).1
  have hltk : k < gs.size := (Array.getElem?_eq_some_iff.1 hk).1
  obtain ⟨i, g, d, sl', hi, hg, hst⟩ := crowd_pick (P := P) (w := w) (sl := sl) (atOr_awake (w := w) h0 hk hsa hsb F) some1
  have hAs : Aside c w (w.at d) := Aside.at c w d
  have hS1 : S (w.at d) := hSt _ _ hAs hS
  have hc1 : (w.at d).heap[c]? = some (.chan 0 #[] false s r tm) := hc
  have hw2 : Aside c (w.at d) ((w.at d).passed c s r tm) := Aside.put c _ _
  have again_b : ∀ w' : World, w'.heap[c]? = some (.chan 0 #[] false s r tm) → b.again w' = b := fun w' hc' => by
    rcases hB with ⟨n, e, hg⟩ | ⟨e, v, vs', g₂, z', _, rfl, _⟩
    · exact again_running _ (.inl (hg.running (fun _ _ => StopBR.running) w hS))
    · exact again_parked_open rfl hc'
  have again_a : ∀ w' : World, w'.heap[c]? = some (.chan 0 #[] false s r tm) → a.again w' = a := fun w' hc' => by
    rcases hA with ⟨n, e, hg⟩ | ⟨e, g, rfl, _⟩
    · exact again_running _ (.inl (hg.running (fun _ _ => StopA.running) w (Aside.refl c w)))
    · exact again_parked_open rfl hc'
  by_cases hi0 : i = 0
  · -- THE RECEIVER MOVES
    subst hi0
    obtain rfl : g = a := by rw [h0] at hi; exact (Option.some.inj hi).symm
    rcases hA with ⟨n, rfl, hgo⟩ | ⟨_, g', rfl, _⟩
    · rcases hgo.cases with hstop | ⟨n', rfl, hstep⟩
      · have hat := hstop _ hAs
        obtain ⟨es, hcomm, hes⟩ := hat.comm
        obtain ⟨ho, hr, hd⟩ := evA_ops hes g.frame.fn g.frame.place
        rcases hB with ⟨kb, rfl, hgb⟩ | ⟨rfl, v, vs', g₂, z', rfl, rfl, hnext⟩
        · -- the sender is on its way: the receiver waits
          have hbs : b.status ≠ .blocked := by rw [hgb.running (fun _ _ => StopBR.running) w hS]; simp
          have hp : partners (gs.setIfInBounds 0 ph) c true = [] := partners_nil fun x y hy => by
            rcases getElem?_stand gs 0 x y hy with ⟨_, rfl⟩ | ⟨hx, hy'⟩
            · exact offersAt_ph _ _
            · by_cases hxk : x = k
              · subst hxk
                rw [hk] at hy'
                obtain rfl := Option.some.inj hy'
                exact offersAt_of_not_blocked hbs _ _
              · exact others_none F hx hxk hy' _ _
          refine ⟨_, _, _, _, (vs.length + 2, 0 + (kb + 1) + sumTo gs.size q), hst.trans (crowd_waits hi hcomm fun cc hcc => ?_), by simp, .right _ (by omega), ?_⟩
          · have : cc = rcase c z := by simpa using hcc
            rw [this]
            exact ways_recv_none hc1 hp
          · have := PInv.opn (P := P) (c := c) (S := S) (Still := Still) (z := z) (Fin := Fin) (k := k) vs (parked (core g) #[rcase c z] (.recv true)) b (w.at d) sl' (t ++ MemOp.ofEvents 0 g.frame.fn g.frame.place es) (gs.setIfInBounds 0 (parked (core g) #[rcase c z] (.recv true))) q s r tm 0 (kb + 1)
              (Array.getElem?_setIfInBounds_self_of_lt hlt0) (by rw [Array.getElem?_setIfInBounds_ne (fun e => hk0 e.symm)]; exact hk) hS1 hc1 (.inr ⟨rfl, g, rfl, fun w₁ h₁ => hstop w₁ (hAs.trans h₁)⟩) (.inl ⟨kb, rfl, hgb⟩) (by omega)
              (F.turn (by simp) (fun x hx => Array.getElem?_setIfInBounds_ne (fun e => hx (.inl e.symm))) (fun op hop => ⟨.inl (ho op hop), by rw [ho op hop]; exact hlt0⟩) (F.past.app0 (.inl rfl) ho hr (fun op hop d => hd op hop 0 d)) F.mem)
            rw [show (gs.setIfInBounds 0 (parked (core g) #[rcase c z] (.recv true))).size = gs.size by simp] at this
            exact this
        · -- the sender waits: both are served in this one step
          obtain ⟨na, hna⟩ := (recvs_iff P c S (Own Still) z _ vs' _ _).1 (hat.cons _ hw2)
          obtain ⟨nb, hnb⟩ := (sendsR_iff P c S (Own Still) vs' _).1 hnext
          have hp : partners (gs.setIfInBounds 0 ph) c true = [(k, 0)] := by
            rw [partners_one (j := k) (g := parked g₂ #[scase c v z'] .send) (by rw [Array.getElem?_setIfInBounds_ne (fun e => hk0 e.symm)]; exact hk) fun x y hx hy => ?_]
            · rw [offersAt_parked_send, if_pos rfl]; rfl
            · rcases getElem?_stand gs 0 x y hy with ⟨_, rfl⟩ | ⟨hx0, hy'⟩
              · exact offersAt_ph _ _
              · exact others_none F hx0 hx hy' _ _
          have hm := crowd_recv_meets (P := P) (sl := sl') hi hcomm hc1 hk0 hk hp
          obtain ⟨hmn, hmq⟩ := met_quiet4 #[{ g := k, fn := g₂.frame.fn, pos := g₂.frame.place, act := .send c s }, { g := 0, fn := (core g).frame.fn, pos := (core g).frame.place, act := .recv c r 0 },
            { g := k, fn := g₂.frame.fn, pos := g₂.frame.place, act := .sendDone c s }, { g := 0, fn := (core g).frame.fn, pos := (core g).frame.place, act := .recvDone c r }] (by
              intro op hop
              simp only [List.mem_toArray, List.mem_cons, List.not_mem_nil, or_false] at hop
              rcases hop with rfl | rfl | rfl | rfl <;> exact ⟨rfl, fun m h => by cases h⟩)
          refine ⟨_, _, _, _, (vs'.length + 2, (na + 1) + (nb + 1) + sumTo gs.size q), hst.trans hm, by simp, .left _ _ (by simp), ?_⟩
          rw [← Array.append_assoc]
          have F1 := F.turn (gs' := gs) (u := MemOp.ofEvents 0 g.frame.fn g.frame.place es) rfl (fun _ _ => rfl) (fun op hop => ⟨.inl (ho op hop), by rw [ho op hop]; exact hlt0⟩) (F.past.app0 (.inl rfl) ho hr (fun op hop d => hd op hop 0 d)) F.mem
          have F2 := F1.turn (gs' := (gs.setIfInBounds k (Go.Conc.served g₂ undef)).setIfInBounds 0 (Go.Conc.served (core g) (.tuple #[v, .bool true]))) (by simp) (fun x hx => by
            rw [Array.getElem?_setIfInBounds_ne (fun e => hx (.inl e.symm)), Array.getElem?_setIfInBounds_ne (fun e => hx (.inr e.symm))]) (u := #[{ g := k, fn := g₂.frame.fn, pos := g₂.frame.place, act := .send c s }, { g := 0, fn := (core g).frame.fn, pos := (core g).frame.place, act := .recv c r 0 },
            { g := k, fn := g₂.frame.fn, pos := g₂.frame.place, act := .sendDone c s }, { g := 0, fn := (core g).frame.fn, pos := (core g).frame.place, act := .recvDone c r }]) (by
              intro op hop
              simp only [List.mem_toArray, List.mem_cons, List.not_mem_nil, or_false] at hop
              rcases hop with rfl | rfl | rfl | rfl
              · exact ⟨.inr rfl, hltk⟩
              · exact ⟨.inl rfl, hlt0⟩
              · exact ⟨.inr rfl, hltk⟩
              · exact ⟨.inl rfl, hlt0⟩) (F1.past.mute hmn (fun g _ => hmq g)) F1.mem
          have := PInv.opn (P := P) (c := c) (S := S) (Still := Still) (z := z) (Fin := Fin) (k := k) vs' (Go.Conc.served (core g) (.tuple #[v, .bool true])) (Go.Conc.served g₂ undef) ((w.at d).passed c s r tm) sl' _ _ q (s + 1) (r + 1) tm (na + 1) (nb + 1)
            (Array.getElem?_setIfInBounds_self_of_lt (by simpa using hlt0)) (by rw [Array.getElem?_setIfInBounds_ne (fun e => hk0 e.symm), Array.getElem?_setIfInBounds_self_of_lt hltk]) (hSt _ _ hw2 hS1) (heap_put hc1) (.inl ⟨na, rfl, hna⟩) (.inl ⟨nb, rfl, hnb⟩) (by omega) F2
          rw [show ((gs.setIfInBounds k (Go.Conc.served g₂ undef)).setIfInBounds 0 (Go.Conc.served (core g) (.tuple #[v, .bool true]))).size = gs.size by simp] at this
          exact this
      · -- a step of its own
        obtain ⟨a', w', es, hgo', ⟨hSS, hcc, hes⟩, hg'⟩ := hstep _ hAs
        obtain ⟨ho, hr, hd⟩ := evA_ops hes g.frame.fn g.frame.place
        have hc' : w'.heap[c]? = some (.chan 0 #[] false s r tm) := hcc.trans hc1
        have hfix := map_woken (P := P) (gs := gs) (g := g) (g' := a') (w' := w') (i := 0) (fun x y hx hy => by
          by_cases hxk : x = k
          · subst hxk
            rw [hk] at hy
            obtain rfl := Option.some.inj hy
            exact again_b w' hc'
          · exact F.again (fun e => e.elim hx hxk) hy w') a'
        refine ⟨_, _, _, _, (vs.length + 2, (n' + 1) + rb + sumTo gs.size q), hst.trans (runT_crowd_go hi hgo'), by simp, .right _ (by omega), ?_⟩
        have := PInv.opn (P := P) (c := c) (S := S) (Still := Still) (z := z) (Fin := Fin) (k := k) vs a' b w' sl' (t ++ MemOp.ofEvents 0 g.frame.fn g.frame.place es) ((gs.map (woken P g a' w')).setIfInBounds 0 a') q s r tm (n' + 1) rb
          (Array.getElem?_setIfInBounds_self_of_lt (by simpa using hlt0)) (by rw [hfix k hk0]; exact hk) (hSS hS1) hc' (.inl ⟨n', rfl, hg'⟩) hB (by omega)
          (F.turn (by simp) (fun x hx => hfix x (fun e => hx (.inl e))) (fun op hop => ⟨.inl (ho op hop), by rw [ho op hop]; exact hlt0⟩) (F.past.app0 (.inl rfl) ho hr (fun op hop d => hd op hop 0 d)) F.mem)
        rw [show ((gs.map (woken P g a' w')).setIfInBounds 0 a').size = gs.size by simp] at this
        exact this
    · simp [parked] at hg
  · by_cases hik : i = k
    · -- THE SENDER MOVES
      subst hik
      have hib : (i == 0) = false := by simpa using hk0
      obtain rfl : g = b := by rw [hk] at hi; exact (Option.some.inj hi).symm
      rcases hB with ⟨kb, rfl, hgb⟩ | ⟨_, v, vs', g₂, z', _, rfl, _⟩
      · rcases hgb.cases with hstop | ⟨k', rfl, hstep⟩
        · have hat := hstop _ hS1
          cases vs with
          | nil =>
            -- it closes the channel
            obtain ⟨_, hwake, g₂, es, nq, hclose, hes, hq⟩ := hat
            have hgo := hclose _ s r tm hS1 hc1
            obtain ⟨ho, hr, hd⟩ := evB_ops hes i g.frame.fn g.frame.place
            have hw3 : Aside c (w.at d) ((w.at d).shut c s r tm) := Aside.put c _ _
            have hc2 : ((w.at d).shut c s r tm).heap[c]? = some (.chan 0 #[] true s r tm) := heap_put hc1
            have hwk : ∀ o, woken P g g₂ ((w.at d).shut c s r tm) o = o.again ((w.at d).shut c s r tm) := by
              intro o; unfold Go.Conc.woken; rcases hq.status with h | h <;> simp [hwake, h]
            have hA' : ∃ n, Goes P true (Aside c) (DA c S (Own Still)) (StopA P c S (Own Still) z Fin []) n (a.again ((w.at d).shut c s r tm)) ((w.at d).shut c s r tm) := by
              rcases hA with ⟨n, _, hg⟩ | ⟨_, g, rfl, hs⟩
              · rw [again_running _ (.inl (hg.running (fun _ _ => StopA.running) w (Aside.refl c w)))]
                exact ⟨n, Goes.rely (R := Aside c) (fun _ _ _ h h' => Aside.trans h h') hg (hAs.trans hw3)⟩
              · rw [again_parked_shut rfl hc2]
                exact ⟨0, fun w₁ h₁ => (hs w₁ ((hAs.trans hw3).trans h₁)).again⟩
            obtain ⟨na, hna⟩ := hA'
            have hget : ∀ x, x ≠ i → ((gs.map (woken P g g₂ ((w.at d).shut c s r tm))).setIfInBounds i g₂)[x]? = (gs[x]?).map fun o => o.again ((w.at d).shut c s r tm) := fun x hx => by
              rw [Array.getElem?_setIfInBounds_ne (fun e => hx e.symm), Array.getElem?_map]
              cases gs[x]? with
              | none => rfl
              | some y => simp [hwk]
            have hops : MemOp.ofEvents i g.frame.fn g.frame.place (es.push ⟨.obj c, true, true⟩) = MemOp.ofEvents i g.frame.fn g.frame.place es ++ #[{ g := i, fn := g.frame.fn, pos := g.frame.place, act := .close c }] := by
              rw [ofEvents_push]; rfl
            obtain ⟨hmn, hmq⟩ := met_quiet4 #[{ g := i, fn := g.frame.fn, pos := g.frame.place, act := .close c }] (by
              intro op hop
              simp only [List.mem_toArray, List.mem_cons, List.not_mem_nil, or_false] at hop
              subst hop; exact ⟨rfl, fun m h => by cases h⟩)
            have hPast1 := F.past.read (.inr rfl) rfl ho hr (fun op hop d => hd op hop i d)
            have hPast2 := hPast1.mute hmn (fun g _ => hmq g)
            have hdeaf : Deaf (t ++ MemOp.ofEvents i g.frame.fn g.frame.place es) i = 0 := hPast1.elim fun B H => H.hears i (.inr rfl)
            have hdeaf2 : Deaf (t ++ MemOp.ofEvents i g.frame.fn g.frame.place es ++ #[{ g := i, fn := g.frame.fn, pos := g.frame.place, act := .close c }]) i = 0 := hPast2.elim fun B H => H.hears i (.inr rfl)
            have hlast : (t ++ MemOp.ofEvents i g.frame.fn g.frame.place es ++ #[{ g := i, fn := g.frame.fn, pos := g.frame.place, act := .close c }])[(t ++ MemOp.ofEvents i g.frame.fn g.frame.place es).size]? = some { g := i, fn := g.frame.fn, pos := g.frame.place, act := .close c } := by
              rw [Array.getElem?_append_right (Nat.le_refl _)]; simp
            refine ⟨_, _, _, _, (1, na + sumTo gs.size (upd q i nq)), hst.trans (runT_crowd_go hi (by rw [hib]; exact hgo)), by simp, .left _ _ (by simp), ?_⟩
            rw [hops, ← Array.append_assoc]
            have F2 : Frm P At0 Still At0 (fun x => x = i) (t ++ MemOp.ofEvents i g.frame.fn g.frame.place es ++ #[{ g := i, fn := g.frame.fn, pos := g.frame.place, act := .close c }]) ((gs.map (woken P g g₂ ((w.at d).shut c s r tm))).setIfInBounds i g₂) (upd q i nq) := by
              refine ⟨fun x y hx hy => ?_, fun j hj => ?_, ?_, fun _ h => h⟩
              · by_cases hxi : x = i
                · subst hxi
                  rw [Array.getElem?_setIfInBounds_self_of_lt (by simpa using hltk)] at hy
                  obtain rfl := Option.some.inj hy
                  rw [upd_same, hdeaf2]
                  exact ⟨Nat.pos_of_ne_zero hk0, QuitsD.of_quitsIn hq⟩
                · rw [hget x hxi] at hy
                  obtain ⟨y', hy', rfl⟩ := Option.map_eq_some_iff.1 hy
                  have hsp : ¬ AtOr i x := fun e => e.elim hx hxi
                  rw [F.again hsp hy', upd_ne q nq hxi]
                  obtain ⟨hp, hqq⟩ := F.old x y' hsp hy'
                  refine ⟨hp, ?_⟩
                  rw [Array.append_assoc, Deaf_quiet fun op hop d => ?_]
                  · exact hqq
                  · rcases Array.mem_append.1 hop with h | h
                    · exact hd op h x d
                    · exact hmq x op h d
              · rw [Array.append_assoc, Deaf_quiet fun op hop d => ?_]
                · exact F.above j (by simpa using hj)
                · rcases Array.mem_append.1 hop with h | h
                  · exact hd op h j d
                  · exact hmq j op h d
              · obtain ⟨B, H⟩ := hPast2
                exact ⟨B, PastG.fewer H (fun g hg => .inl hg)⟩
            have := PInv.shut (P := P) (c := c) (S := S) (Still := Still) (z := z) (Fin := Fin) (k := i) (a.again ((w.at d).shut c s r tm)) ((w.at d).shut c s r tm) sl' _ _ (upd q i nq) s r tm na (by rw [hget 0 (fun e => hk0 e.symm), h0]; rfl) hc2 hna F2
              ⟨_, _, hlast, rfl, rfl, ⟨i, g?_of hlast, by rw [deaf_old (Nat.le_refl _)]; exact hdeaf⟩, fun j op hj hg ht => by
                rcases getElem?_append_cases hj with ⟨h, _⟩ | ⟨_, hm⟩
                · exact h
                · exact absurd (hmn op hm) ht⟩
            rw [show ((gs.map (woken P g g₂ ((w.at d).shut c s r tm))).setIfInBounds i g₂).size = gs.size by simp] at this
            exact this
          | cons v vs' =>
            obtain ⟨_, g₂, z', es, hcomm, hes, hnext⟩ := hat
            have hcm := hcomm _ hS1
            obtain ⟨ho, hr, hd⟩ := evB_ops hes i g.frame.fn g.frame.place
            rcases hA with ⟨n, rfl, hga⟩ | ⟨rfl, g', rfl, hs⟩
            · -- the receiver is on its way: the sender waits
              have has : a.status ≠ .blocked := by rw [hga.running (fun _ _ => StopA.running) w (Aside.refl c w)]; simp
              have hp : partners (gs.setIfInBounds i ph) c false = [] := partners_nil fun x y hy => by
                rcases getElem?_stand gs i x y hy with ⟨_, rfl⟩ | ⟨hx, hy'⟩
                · exact offersAt_ph _ _
                · by_cases hx0 : x = 0
                  · subst hx0
                    rw [h0] at hy'
                    obtain rfl := Option.some.inj hy'
                    exact offersAt_of_not_blocked has _ _
                  · exact others_none F hx0 hx hy' _ _
              refine ⟨_, _, _, _, ((v :: vs').length + 2, (n + 1) + 0 + sumTo gs.size q), hst.trans (crowd_waits hi (by rw [hib]; exact hcm) fun cc hcc => ?_), by simp, .right _ (by omega), ?_⟩
              · have : cc = scase c v z' := by simpa using hcc
                rw [this]
                exact ways_send_none hc1 (by simp) hp
              · have := PInv.opn (P := P) (c := c) (S := S) (Still := Still) (z := z) (Fin := Fin) (k := i) (v :: vs') a (parked g₂ #[scase c v z'] .send) (w.at d) sl' (t ++ MemOp.ofEvents i g.frame.fn g.frame.place es) (gs.setIfInBounds i (parked g₂ #[scase c v z'] .send)) q s r tm (n + 1) 0
                  (by rw [Array.getElem?_setIfInBounds_ne hk0]; exact h0) (Array.getElem?_setIfInBounds_self_of_lt hltk) hS1 hc1 (.inl ⟨n, rfl, Goes.rely (R := Aside c) (fun _ _ _ h h' => Aside.trans h h') hga hAs⟩) (.inr ⟨rfl, v, vs', g₂, z', rfl, rfl, hnext⟩) (by omega)
                  (F.turn (by simp) (fun x hx => Array.getElem?_setIfInBounds_ne (fun e => hx (.inr e.symm))) (fun op hop => ⟨.inr (ho op hop), by rw [ho op hop]; exact hltk⟩) (F.past.read (.inr rfl) rfl ho hr (fun op hop d => hd op hop i d)) F.mem)
                rw [show (gs.setIfInBounds i (parked g₂ #[scase c v z'] .send)).size = gs.size by simp] at this
                exact this
            · -- the receiver waits: both are served in this one step
              obtain ⟨na, hna⟩ := (recvs_iff P c S (Own Still) z _ vs' _ _).1 ((hs _ hAs).cons _ hw2)
              obtain ⟨nb, hnb⟩ := (sendsR_iff P c S (Own Still) vs' _).1 hnext
              have hp : partners (gs.setIfInBounds i ph) c false = [(0, 0)] := by
                rw [partners_one (j := 0) (g := parked (core g') #[rcase c z] (.recv true)) (by rw [Array.getElem?_setIfInBounds_ne hk0]; exact h0) fun x y hx hy => ?_]
                · rw [offersAt_parked_recv, if_pos rfl]; rfl
                · rcases getElem?_stand gs i x y hy with ⟨_, rfl⟩ | ⟨hxi, hy'⟩
                  · exact offersAt_ph _ _
                  · exact others_none F hx hxi hy' _ _
              have hm := crowd_send_meets (P := P) (sl := sl') hi (by rw [hib]; exact hcm) hc1 (fun e => hk0 e.symm) h0 hp
              obtain ⟨hmn, hmq⟩ := met_quiet4 #[{ g := i, fn := g₂.frame.fn, pos := g₂.frame.place, act := .send c s }, { g := 0, fn := (core g').frame.fn, pos := (core g').frame.place, act := .recv c r 0 },
                { g := i, fn := g₂.frame.fn, pos := g₂.frame.place, act := .sendDone c s }, { g := 0, fn := (core g').frame.fn, pos := (core g').frame.place, act := .recvDone c r }] (by
                  intro op hop
                  simp only [List.mem_toArray, List.mem_cons, List.not_mem_nil, or_false] at hop
                  rcases hop with rfl | rfl | rfl | rfl <;> exact ⟨rfl, fun m h => by cases h⟩)
              refine ⟨_, _, _, _, (vs'.length + 2, (na + 1) + (nb + 1) + sumTo gs.size q), hst.trans hm, by simp, .left _ _ (by simp), ?_⟩
              rw [← Array.append_assoc]
              have F1 := F.turn (gs' := gs) (u := MemOp.ofEvents i g.frame.fn g.frame.place es) rfl (fun _ _ => rfl) (fun op hop => ⟨.inr (ho op hop), by rw [ho op hop]; exact hltk⟩) (F.past.read (.inr rfl) rfl ho hr (fun op hop d => hd op hop i d)) F.mem
              have F2 := F1.turn (gs' := (gs.setIfInBounds 0 (Go.Conc.served (core g') (.tuple #[v, .bool true]))).setIfInBounds i (Go.Conc.served g₂ undef)) (by simp) (fun x hx => by
                rw [Array.getElem?_setIfInBounds_ne (fun e => hx (.inr e.symm)), Array.getElem?_setIfInBounds_ne (fun e => hx (.inl e.symm))]) (u := #[{ g := i, fn := g₂.frame.fn, pos := g₂.frame.place, act := .send c s }, { g := 0, fn := (core g').frame.fn, pos := (core g').frame.place, act := .recv c r 0 },
                { g := i, fn := g₂.frame.fn, pos := g₂.frame.place, act := .sendDone c s }, { g := 0, fn := (core g').frame.fn, pos := (core g').frame.place, act := .recvDone c r }]) (by
                  intro op hop
                  simp only [List.mem_toArray, List.mem_cons, List.not_mem_nil, or_false] at hop
                  rcases hop with rfl | rfl | rfl | rfl
                  · exact ⟨.inr rfl, hltk⟩
                  · exact ⟨.inl rfl, hlt0⟩
                  · exact ⟨.inr rfl, hltk⟩
                  · exact ⟨.inl rfl, hlt0⟩) (F1.past.mute hmn (fun g _ => hmq g)) F1.mem
              have := PInv.opn (P := P) (c := c) (S := S) (Still := Still) (z := z) (Fin := Fin) (k := i) vs' (Go.Conc.served (core g') (.tuple #[v, .bool true])) (Go.Conc.served g₂ undef) ((w.at d).passed c s r tm) sl' _ _ q (s + 1) (r + 1) tm (na + 1) (nb + 1)
                (by rw [Array.getElem?_setIfInBounds_ne hk0, Array.getElem?_setIfInBounds_self_of_lt hlt0]) (Array.getElem?_setIfInBounds_self_of_lt (by simpa using hltk)) (hSt _ _ hw2 hS1) (heap_put hc1) (.inl ⟨na, rfl, hna⟩) (.inl ⟨nb, rfl, hnb⟩) (by omega) F2
              rw [show ((gs.setIfInBounds 0 (Go.Conc.served (core g') (.tuple #[v, .bool true]))).setIfInBounds i (Go.Conc.served g₂ undef)).size = gs.size by simp] at this
              exact this
        · -- a step of its own: the world is handed back
          obtain ⟨b', _, es, hgo, ⟨⟨d', rfl⟩, hes⟩, hg'⟩ := hstep _ hS1
          obtain ⟨ho, hr, hd⟩ := evB_ops hes i g.frame.fn g.frame.place
          have hfix := map_woken (P := P) (gs := gs) (g := g) (g' := b') (w' := (w.at d).at d') (i := i) (fun x y hx hy => by
            by_cases hx0 : x = 0
            · subst hx0
              rw [h0] at hy
              obtain rfl := Option.some.inj hy
              exact again_a _ hc1
            · exact F.again (fun e => e.elim hx0 hx) hy _) b'
          refine ⟨_, _, _, _, (vs.length + 2, ra + (k' + 1) + sumTo gs.size q), hst.trans (runT_crowd_go hi (by rw [hib]; exact hgo)), by simp, .right _ (by omega), ?_⟩
          have := PInv.opn (P := P) (c := c) (S := S) (Still := Still) (z := z) (Fin := Fin) (k := i) vs a b' ((w.at d).at d') sl' (t ++ MemOp.ofEvents i g.frame.fn g.frame.place es) ((gs.map (woken P g b' ((w.at d).at d'))).setIfInBounds i b') q s r tm ra (k' + 1)
            (by rw [hfix 0 (fun e => hk0 e.symm)]; exact h0) (Array.getElem?_setIfInBounds_self_of_lt (by simpa using hltk)) (hSt _ _ (Aside.at c _ d') hS1) hc1 (hA.rely (hAs.trans (Aside.at c _ d'))) (.inl ⟨k', rfl, hg'.anyWorld default⟩) (by omega)
            (F.turn (by simp) (fun x hx => hfix x (fun e => hx (.inr e))) (fun op hop => ⟨.inr (ho op hop), by rw [ho op hop]; exact hltk⟩) (F.past.read (.inr rfl) rfl ho hr (fun op hop d => hd op hop i d)) F.mem)
          rw [show ((gs.map (woken P g b' ((w.at d).at d'))).setIfInBounds i b').size = gs.size by simp] at this
          exact this
      · simp [parked] at hg
    · -- A LEAVER SLIPS
      have hsp : ¬ AtOr k i := fun e => e.elim hi0 hik
      obtain ⟨gs₁, ops, q₁, hrunT, hsz₁, hsp₁, F₁, hlt, _⟩ := F.slip (w := w.at d) (sl := sl') hi hsp hg (fun x gx hx hgx => by
        rcases hx with rfl | rfl
        · rw [h0] at hgx
          obtain rfl := Option.some.inj hgx
          exact again_a _ hc1
        · rw [hk] at hgx
          obtain rfl := Option.some.inj hgx
          exact again_b _ hc1)
      exact ⟨gs₁, w.at d, sl', ops, (vs.length + 2, ra + rb + sumTo gs₁.size q₁), hst.trans hrunT, hsz₁, .right _ (by omega),
        .opn vs a b (w.at d) sl' _ gs₁ q₁ s r tm ra rb (by rw [hsp₁ 0 (.inl rfl)]; exact h0) (by rw [hsp₁ k (.inr rfl)]; exact hk) hS1 hc1 (hA.rely hAs) hB hpos F₁⟩
theorem at0_awake {a : Goroutine} {t : Trace} {gs : Array Goroutine} {q : Nat → Nat} {Mem Loose : Nat → Prop} (h0 : gs[0]? = some a) (ha : a.status = .running) (F : Frm P At0 Still Mem Loose t gs q) : ∀ g ∈ gs, awake g := by
  intro g hg
  obtain ⟨i, hi, rfl⟩ := Array.mem_iff_getElem.1 hg
  by_cases h : i = 0
  · subst h
    have : gs[0] = a := by simpa [Array.getElem?_eq_getElem hi] using h0
    rw [this]; exact awake_of (.inl ha)
  · exact awake_of ((F.old i _ h (Array.getElem?_eq_getElem hi)).2.status.elim .inl fun x => .inr (.inr x))
theorem step_shutC (hk0 : k ≠ 0) {a : Goroutine} {w : World} {sl : Option (Nat × Nat)} {t : Trace} {gs : Array Goroutine} {q : Nat → Nat} {s r : Nat} {tm : Bool} {n : Nat}
    (h0 : gs[0]? = some a) (hc : w.heap[c]? = some (.chan 0 #[] true s r tm)) (hA : Goes P true (Aside c) (DA c S (Own Still)) (StopA P c S (Own Still) z Fin []) n a w)
    (F : Frm P At0 Still At0 (fun i => i = k) t gs q) (hC : ClosedBy c k t) :
    ∃ gs' w' sl' ops μ', stepT P (crowd gs w sl) = (.next (crowd gs' w' sl'), ops) ∧ gs'.size = gs.size ∧ Lt2 μ' (1, n + sumTo gs.size q) ∧ PInv P c S Still z Fin k μ' (crowd gs' w' sl') (t ++ ops) := by
  have hra : a.status = .running := hA.running (fun _ _ => StopA.running) w (Aside.refl c w)
  have hlt0 : 0 < gs.size := (Array.getElem?_eq_some_iff.1 h0).1
  obtain ⟨i, g, d, sl', hi, hg, hst⟩ := crowd_pick (P := P) (w := w) (sl := sl) (at0_awake h0 hra F) ⟨0, a, h0, hra⟩
  have hAs : Aside c w (w.at d) := Aside.at c w d
  have hc1 : (w.at d).heap[c]? = some (.chan 0 #[] true s r tm) := hc
  by_cases hi0 : i = 0
  · subst hi0
    obtain rfl : g = a := by rw [h0] at hi; exact (Option.some.inj hi).symm
    rcases hA.cases with hstop | ⟨n', rfl, hstep⟩
    · -- the receiver finds the channel closed
      have hat := hstop _ hAs
      obtain ⟨es, hcomm, hes⟩ := hat.comm
      obtain ⟨ho, hr, hd⟩ := evA_ops hes g.frame.fn g.frame.place
      have hp : partners (gs.setIfInBounds 0 ph) c true = [] := partners_nil fun x y hy => by
        rcases getElem?_stand gs 0 x y hy with ⟨_, rfl⟩ | ⟨hx, hy'⟩
        · exact offersAt_ph _ _
        · exact offersAt_of_not_blocked (fun h => by rcases (F.old x y hx hy').2.status with e | e <;> rw [e] at h <;> cases h) c true
      have hm := crowd_recv_closed (P := P) (sl := sl') hi hcomm hc1 hp
      have hP1 := F.past.app0 rfl ho hr (fun op hop d => hd op hop 0 d)
      obtain ⟨pc, opc, e1, e2, e3, e4, e5⟩ := hC.app (u := MemOp.ofEvents 0 g.frame.fn g.frame.place es) (fun op hop hg => absurd (hg.symm.trans (ho op hop)) hk0)
      obtain ⟨B, H⟩ := hP1.found rfl e1 e2 e3 e4 e5 (core g).frame.fn (core g).frame.place
      refine ⟨_, _, _, _, (0, 0), hst.trans hm, by simp, .left _ _ (by omega), ?_⟩
      rw [← Array.append_assoc]
      refine .fin _ _ sl' _ _ q (Array.getElem?_setIfInBounds_self_of_lt hlt0) (hat.nil _ (Aside.refl c _)) ?_
      have F1 := F.turn (gs' := gs) (u := MemOp.ofEvents 0 g.frame.fn g.frame.place es) rfl (fun _ _ => rfl) (fun op hop => ⟨ho op hop, by rw [ho op hop]; exact hlt0⟩) hP1 F.mem
      refine F1.turn (by simp) (fun x hx => Array.getElem?_setIfInBounds_ne (fun e => hx e.symm)) (fun op hop => ?_) ⟨B, PastH.ofPast (PastH.toPast H rfl fun g h => h.2 h.1) (fun l h => h.elim)⟩ (fun _ h => h)
      simp only [List.mem_toArray, List.mem_cons, List.not_mem_nil, or_false] at hop
      subst hop
      exact ⟨rfl, hlt0⟩
    · obtain ⟨a', w', es, hgo, ⟨_, hcc, hes⟩, hg'⟩ := hstep _ hAs
      obtain ⟨ho, hr, hd⟩ := evA_ops hes g.frame.fn g.frame.place
      have hfix := map_woken (P := P) (gs := gs) (g := g) (g' := a') (w' := w') (i := 0) (fun x y hx hy => F.again hx hy w') a'
      refine ⟨_, _, _, _, (1, n' + sumTo gs.size q), hst.trans (runT_crowd_go hi hgo), by simp, .right _ (by omega), ?_⟩
      have := PInv.shut (P := P) (c := c) (S := S) (Still := Still) (z := z) (Fin := Fin) (k := k) a' w' sl' (t ++ MemOp.ofEvents 0 g.frame.fn g.frame.place es) ((gs.map (woken P g a' w')).setIfInBounds 0 a') q s r tm n'
        (Array.getElem?_setIfInBounds_self_of_lt (by simpa using hlt0)) (hcc.trans hc1) hg'
        (F.turn (by simp) (fun x hx => hfix x hx) (fun op hop => ⟨ho op hop, by rw [ho op hop]; exact hlt0⟩) (F.past.app0 rfl ho hr (fun op hop d => hd op hop 0 d)) F.mem)
        (hC.app fun op hop hg => absurd (hg.symm.trans (ho op hop)) hk0)
      rw [show ((gs.map (woken P g a' w')).setIfInBounds 0 a').size = gs.size by simp] at this
      exact this
  · obtain ⟨gs₁, ops, q₁, hrunT, hsz₁, hsp₁, F₁, hlt, hops⟩ := F.slip (w := w.at d) (sl := sl') hi hi0 hg (fun x gx hx hgx => by
      obtain rfl : x = 0 := hx
      rw [h0] at hgx
      obtain rfl := Option.some.inj hgx
      exact again_running _ (.inl hra))
    exact ⟨gs₁, w.at d, sl', ops, (1, n + sumTo gs₁.size q₁), hst.trans hrunT, hsz₁, .right _ (by omega),
      .shut a (w.at d) sl' _ gs₁ q₁ s r tm n (by rw [hsp₁ 0 rfl]; exact h0) hc1 (Goes.rely (R := Aside c) (fun _ _ _ h h' => Aside.trans h h') hA hAs) F₁ (hC.app fun op hop _ => (hops op hop).2)⟩
/-- A go STATEMENT OF GOROUTINE 0's: parent and child follow the two scripts. -/
theorem pipe_runs (hk0 : k ≠ 0) (hSt : ∀ w w₁, Aside c w w₁ → S w → S w₁) (N₀ : Nat) : ∀ μ m t, (PInv P c S Still z Fin k μ m t ∧ m.gs.size = N₀) → ∃ N m' t', runNT P N m t = (.next m', t') ∧ PDone P Fin N₀ m' t' := by
  refine runs_untilW (r := Lt2) (Prod.lex Nat.lt_wfRel Nat.lt_wfRel).wf ?_
  rintro μ m t ⟨hI, hn⟩
  cases hI with
  | opn vs a b w sl t gs q s r tm ra rb h0 hk hS hc hA hB hpos F =>
    obtain ⟨gs', w', sl', ops, μ', h1, h2, h3, h4⟩ := step_opnC (sl := sl) hk0 hSt h0 hk hS hc hA hB hpos F
    exact .inr ⟨_, ops, μ', h1, h3, h4, h2.trans hn⟩
  | shut a w sl t gs q s r tm n h0 hc hA F hC =>
    obtain ⟨gs', w', sl', ops, μ', h1, h2, h3, h4⟩ := step_shutC (sl := sl) hk0 h0 hc hA F hC
    exact .inr ⟨_, ops, μ', h1, h3, h4, h2.trans hn⟩
  | fin a w sl t gs q h0 hF F => exact .inl ⟨gs, a, w, sl, q, rfl, hn, h0, hF, F⟩
end
/-- GOROUTINE 0 STANDS AT A go STATEMENT; behind it parent and child follow the two scripts for the same values over an open channel without a buffer. -/
def AtGoP (P : Program) (Fin : Goroutine → World → Prop) (a : Goroutine) (w : World) : Prop :=
  a.status = .running ∧ ∀ d, ∃ (a' child : Goroutine) (w' : World) (es : Array Event) (c : Nat) (S : World → Prop) (Still : Loc → Prop) (z : Value) (vs : List Value) (s r : Nat) (tm : Bool),
    stepG P true a (w.at d) = .spawn a' child w' es ∧ Ev es ∧ (∀ l, Still l → l.isMemory = true) ∧ (∀ w w₁, Aside c w w₁ → S w → S w₁) ∧ S w' ∧ w'.heap[c]? = some (.chan 0 #[] false s r tm) ∧
    Recvs P c S (Own Still) z Fin vs a' w' ∧ SendsR P c S (Own Still) vs child
section
variable {P : Program} {Fin : Goroutine → World → Prop} {t : Trace} {gs : Array Goroutine} {q : Nat → Nat}
theorem runT_crowd_spawn {i : Nat} {g g' child : Goroutine} {w w' : World} {sl : Option (Nat × Nat)} {es : Array Event} (hi : gs[i]? = some g) (h : stepG P (i == 0) g w = .spawn g' child w' es) :
    runT P (crowd gs w sl) i = (.next (crowd ((gs.setIfInBounds i g').push child) w' sl), MemOp.ofEvents i g.frame.fn g.frame.place es ++ #[{ g := i, fn := g.frame.fn, pos := g.frame.place, act := .go gs.size }, { g := gs.size, fn := child.frame.fn, pos := g.frame.place, act := .start }]) := by
  obtain ⟨hlt, rfl⟩ := Array.getElem?_eq_some_iff.1 hi
  have hsw := swapAt_of_lt hlt { (default : Goroutine) with status := .finished }
  show runT P { world := w, gs := gs, rest := { timers := #[], alone := none, slice := sl } } i = _
  unfold runT
  simp only [hsw, h, GStep.es, set_setIfInBounds hlt, Array.size_set]
  rfl
/-- ████ THE PHASE: from a frame at a go statement to a frame in which the channel has been found closed. ████ -/
theorem pipe_phase {a : Goroutine} {w : World} {sl : Option (Nat × Nat)} (h0 : gs[0]? = some a) (F : Frm0 P t gs q) (hA : AtGoP P Fin a w) :
    ∃ (N : Nat) (gs' : Array Goroutine) (a' : Goroutine) (w' : World) (sl' : Option (Nat × Nat)) (t' : Trace) (q' : Nat → Nat),
      runNT P N (crowd gs w sl) t = (.next (crowd gs' w' sl'), t') ∧ gs'.size = gs.size + 1 ∧ gs'[0]? = some a' ∧ Fin a' w' ∧ Frm0 P t' gs' q' := by
  obtain ⟨hrun, hA⟩ := hA
  -- the leavers may slip ahead of the go statement
  have ahead : ∀ (M : Nat) (w₀ : World) (gs : Array Goroutine) (sl : Option (Nat × Nat)) (t : Trace) (q : Nat → Nat), sumTo gs.size q ≤ M → AtRel w w₀ → gs[0]? = some a → Frm0 P t gs q →
      ∃ (N : Nat) (gs₁ : Array Goroutine) (w₁ : World) (sl₁ sl₂ : Option (Nat × Nat)) (t₁ : Trace) (q₁ : Nat → Nat) (d : Nat), runNT P N (crowd gs w₀ sl) t = (.next (crowd gs₁ w₁ sl₁), t₁) ∧ gs₁.size = gs.size ∧ gs₁[0]? = some a ∧ Frm0 P t₁ gs₁ q₁ ∧
        stepT P (crowd gs₁ w₁ sl₁) = runT P (crowd gs₁ (w.at d) sl₂) 0 := by
    intro M
    induction M with
    | zero =>
      intro w₀ gs sl t q hM hr h0 F
      obtain ⟨i, g, d, sl', hi, hg, hst⟩ := crowd_pick (P := P) (w := w₀) (sl := sl) (F.awake h0 hrun) ⟨0, a, h0, hrun⟩
      obtain ⟨d', rfl⟩ := hr
      by_cases h : i = 0
      · subst h
        exact ⟨0, gs, w.at d', sl, sl', t, q, d, rfl, rfl, h0, F, hst⟩
      · obtain ⟨gs', ops, q', _, _, _, _, hlt, _⟩ := F.slip (w := (w.at d').at d) (sl := sl') hi h hg (fun x gx hx hgx => by
          obtain rfl : x = 0 := hx
          rw [h0] at hgx
          obtain rfl := Option.some.inj hgx
          exact again_running _ (.inl hrun))
        omega
    | succ M ihM =>
      intro w₀ gs sl t q hM hr h0 F
      obtain ⟨i, g, d, sl', hi, hg, hst⟩ := crowd_pick (P := P) (w := w₀) (sl := sl) (F.awake h0 hrun) ⟨0, a, h0, hrun⟩
      obtain ⟨d', rfl⟩ := hr
      by_cases h : i = 0
      · subst h
        exact ⟨0, gs, w.at d', sl, sl', t, q, d, rfl, rfl, h0, F, hst⟩
      · obtain ⟨gs₁, ops, q₁, hrunT, hsz₁, hsp₁, F₁, hlt, _⟩ := F.slip (w := (w.at d').at d) (sl := sl') hi h hg (fun x gx hx hgx => by
          obtain rfl : x = 0 := hx
          rw [h0] at hgx
          obtain rfl := Option.some.inj hgx
          exact again_running _ (.inl hrun))
        obtain ⟨N, gs₂, w₂, sl₂, sl₃, t₂, q₂, d₂, hr2, hsz2, h02, F2, hst2⟩ := ihM ((w.at d').at d) gs₁ sl' (t ++ ops) q₁ (by omega) ⟨d, rfl⟩ (by rw [hsp₁ 0 rfl]; exact h0) F₁
        exact ⟨N + 1, gs₂, w₂, sl₂, sl₃, t₂, q₂, d₂, by simp only [runNT, hst, hrunT]; exact hr2, hsz2.trans hsz₁, h02, F2, hst2⟩
  obtain ⟨N, gs₁, w₁, sl₁, sl₂, t₁, q₁, d, hr1, hsz1, h01, F1, hst1⟩ := ahead _ w gs sl t q (Nat.le_refl _) (atRel_refl w) h0 F
  obtain ⟨a', child, w', es, c, S, Still, z, vs, s, r, tm, hsp, hev, hmem, hSt, hS, hc, hRe, hSe⟩ := hA d
  have hlt0 : 0 < gs₁.size := (Array.getElem?_eq_some_iff.1 h01).1
  have hk0 : gs₁.size ≠ 0 := by omega
  have hspw := runT_crowd_spawn (P := P) (sl := sl₂) (i := 0) h01 hsp
  obtain ⟨ho, hd⟩ := ev_ops0 hev 0 a.frame.fn a.frame.place
  have hP1 := F1.past.app0 rfl ho (fun op hop b _ hb => hb.elim) (fun op hop d => hd op hop 0 d)
  have habove : ∀ j, gs₁.size ≤ j → Deaf (t₁ ++ MemOp.ofEvents 0 a.frame.fn a.frame.place es) j = 0 := fun j hj => by
    rw [Deaf_other t₁ (g' := 0) (by omega) _ ho]
    exact F1.above j hj
  obtain ⟨B, H⟩ := hP1
  have H2 := PastH.hire (PastH.ofPast (Still := Still) (PastH.toPast H rfl fun g h => h) hmem) rfl (habove _ (Nat.le_refl _)) a.frame.fn a.frame.place child.frame.fn
  have hget : ∀ x, x ≠ 0 → x ≠ gs₁.size → ((gs₁.setIfInBounds 0 a').push child)[x]? = gs₁[x]? := fun x hx hxk => by
    rw [Array.getElem?_push]
    rw [if_neg (by simpa using hxk), Array.getElem?_setIfInBounds_ne (fun e => hx e.symm)]
  have hqu : ∀ g, ∀ op ∈ (#[{ g := 0, fn := a.frame.fn, pos := a.frame.place, act := .go gs₁.size }, { g := gs₁.size, fn := child.frame.fn, pos := a.frame.place, act := .start }] : Trace), ∀ d, deafStep g d op = d := by
    intro g op hop d
    simp only [List.mem_toArray, List.mem_cons, List.not_mem_nil, or_false] at hop
    rcases hop with rfl | rfl <;> rfl
  have F2 : Frm P (AtOr gs₁.size) Still (AtOr gs₁.size) (fun i => i = gs₁.size) (t₁ ++ MemOp.ofEvents 0 a.frame.fn a.frame.place es ++ #[{ g := 0, fn := a.frame.fn, pos := a.frame.place, act := .go gs₁.size }, { g := gs₁.size, fn := child.frame.fn, pos := a.frame.place, act := .start }])
      ((gs₁.setIfInBounds 0 a').push child) q₁ := by
    refine ⟨fun x y hx hy => ?_, fun j hj => ?_, ⟨B, ?_⟩, fun _ h => h⟩
    · have hx0 : x ≠ 0 := fun e => hx (.inl e)
      have hxk : x ≠ gs₁.size := fun e => hx (.inr e)
      rw [hget x hx0 hxk] at hy
      obtain ⟨hp, hq⟩ := F1.old x y hx0 hy
      refine ⟨hp, ?_⟩
      rw [Deaf_quiet (hqu x), Deaf_other t₁ (g' := 0) (fun e => hx0 e.symm) _ ho]
      exact hq
    · rw [Deaf_quiet (hqu j)]
      exact habove j (by simp at hj; omega)
    · exact PastG.fewer (PastG.loosen H2 (fun g h => h.elim (fun h => h.elim) id)) (fun g h => h)
  obtain ⟨na, hna⟩ := (recvs_iff P c S (Own Still) z Fin vs _ _).1 hRe
  obtain ⟨nb, hnb⟩ := (sendsR_iff P c S (Own Still) vs _).1 hSe
  have hI := PInv.opn (P := P) (c := c) (S := S) (Still := Still) (z := z) (Fin := Fin) (k := gs₁.size) vs a' child w' sl₂ _ _ q₁ s r tm (na + 1) (nb + 1) (by rw [Array.getElem?_push, if_neg (by simpa using fun e => hk0 e.symm)]; exact Array.getElem?_setIfInBounds_self_of_lt hlt0)
    (by rw [Array.getElem?_push, if_pos (by simp)]) hS hc (.inl ⟨na, rfl, hna⟩) (.inl ⟨nb, rfl, hnb⟩) (by omega) F2
  obtain ⟨M, m', t', hrM, gs', a₂, w₂, sl', q', rfl, hsz', h0', hF', F'⟩ := pipe_runs hk0 hSt (gs₁.size + 1) _ _ _ ⟨hI, by simp [crowd]⟩
  refine ⟨N + (1 + M), gs', a₂, w₂, sl', t', q', ?_, by rw [hsz', hsz1], h0', hF', F'⟩
  rw [runNT_add, hr1]
  simp only
  rw [runNT_add]
  simp only [runNT, hst1, hspw]
  rw [← Array.append_assoc]
  exact hrM
end
end Go.Proofs.Ytaeaacdjiijooaa.Lift

namespace Go.Proofs.Ytaeaacdjiijooaa.Lift
open Go Go.Conc
set_option linter.unusedVariables false
/-! ### a walk beside leavers, by hand: control, a call by its contract, the return -/
section
variable {P : Program} {C : Chk} {Stop : Goroutine → World → Prop} {b : Frame} {a : Act} {k : List Item} {cs : List Frame} {w : World}
theorem d0_nil (w w' : World) : D0 w w' #[] := ev_nil
theorem gw_go {g g' : Goroutine} (hs : g.status = .running) (h : ∀ d, ∃ es, stepG P true g (w.at d) = .go g' (w.at d) es ∧ Ev es) (hn : GoesW P true AtRel D0 Stop g' w) : GoesW P true AtRel D0 Stop g w := by
  refine .step hs ?_ ?_
  · rintro _ ⟨d, rfl⟩
    obtain ⟨es, h1, h2⟩ := h d
    exact ⟨_, _, _, h1, h2⟩
  · rintro _ g₂ w₂ es ⟨d, rfl⟩ hst
    obtain ⟨es', h1, h2⟩ := h d
    rw [h1] at hst
    injection hst with e1 e2 e3
    subst e1 e2
    exact hn.rely atRel_trans ⟨d, rfl⟩
theorem gw_step {g : Goroutine} (hs : g.status = .running) (h : ∀ w₁, AtRel w w₁ → (stepG P true g w₁).goes fun g' w' es => D0 w₁ w' es ∧ GoesW P true AtRel D0 Stop g' w') : GoesW P true AtRel D0 Stop g w := by
  refine .step hs (fun w₁ hr => ?_) (fun w₁ g' w' es hr hst => ?_)
  · have := h w₁ hr
    cases hst : stepG P true g w₁ with
    | go g' w' es => rw [hst, goes_go] at this; exact ⟨g', w', es, rfl, this.1⟩
    | _ => rw [hst] at this; exact this.elim
  · have := h w₁ hr
    rw [hst, goes_go] at this
    exact this.2
theorem AtLeave.mono {f : FuncId} {R R' : Value → World → Prop} {base : List Frame} {g : Goroutine} (h : AtLeave P f R base g w) (hR : ∀ v, R v w → R' v w) : AtLeave P f R' base g w := by
  obtain ⟨fr, v, e, hl, hf, hv⟩ := h
  exact ⟨fr, v, e, hl, hf, hR v hv⟩
theorem GoesW.mono {Stop' : Goroutine → World → Prop} {g : Goroutine} (h : GoesW P true AtRel D0 Stop g w) (hS : ∀ g w, Stop g w → Stop' g w) : GoesW P true AtRel D0 Stop' g w := by
  induction h with
  | stop h => exact .stop fun w₁ h₁ => hS _ _ (h w₁ h₁)
  | step hs hgo _ ih => exact .step hs hgo ih
theorem at_self (w : World) : AtRel w w := ⟨w.drawn, rfl⟩
theorem frOk_enter (hC : ChkOk P C) {f : FuncId} (hS : C.S f = true) (hfs : C.fs f = []) (args : Array Value) : FrOk C (Frame.enter P f args .normal) := by
  obtain ⟨fn, body, hfn, _, hb, ht⟩ := hC.body f hS
  rw [enter_at args hfn hb]
  refine ⟨.inl hS, rfl, rfl, rfl, fun x hx => ?_, fun j hj => ?_⟩
  · obtain rfl : x = .code body := by simpa [Frame.at] using hx
    exact ht
  · have : j ∈ C.fs f := hj
    rw [hfs] at this
    cases this
/-- THE RETURN. -/
theorem gw_leave {f : FuncId} {R : Value → World → Prop} {g : Goroutine} {c : Frame} (h : AtLeave P f R (c :: cs) g w) (hn : ∀ v, R v w → GoesW P true AtRel D0 Stop (G (c.finish v) cs) w) : GoesW P true AtRel D0 Stop g w := by
  obtain ⟨fr, v, rfl, ⟨h1, h2, h3, fn, hfn, hr⟩, _, hR⟩ := h
  refine gw_go rfl (fun d => ?_) (hn v hR)
  obtain ⟨_, _, h4⟩ := runT_on P (results fn fr.tmps) (still_results fn fr.tmps) w #[]
  have e : ((results fn fr.tmps).runT P w #[]).1 = .ok v w := by rw [← hr]; exact Sem.runT_fst ..
  have h5 := h4 w.tape d (by rw [e]; intro i hi; simp [Result.world] at hi)
  rw [e] at h5
  refine ⟨seen P fr.fn ((results fn fr.tmps).runT P w #[]).2 ++ #[], ?_, (ev_seen (runT_ev P _ (still_results fn fr.tmps) w #[] ev_nil)).app ev_nil⟩
  rw [stepG_unwind (by rw [h1]; simp)]
  unfold unwind
  simp only [h2, h1, hfn]
  have e2 : (results fn fr.tmps).runT P (w.at d) #[] = (.ok v (w.at d), ((results fn fr.tmps).runT P w #[]).2) := by
    have : (w.at d) = w.on w.tape d := rfl
    rw [this, h5]
    simp [Result.on, Result.world]
  rw [e2]
  simp only [doReturn, h3]
  rfl
/-- A CALL BY ITS LONE CONTRACT. -/
theorem gw_call (hC : ChkOk P C) {ops : Array Oper} {i : Nat} {rest : List Nat} {o : Oper} {f : FuncId} {args : Array Operand} {ats : Array TypeId}
    (ho : ops[i]? = some o) (hw : Region.wanted o (yielded ops a.tmps) = true) (hk : b.kind ≠ .early) (hop : o.op = .call { callee := .value (.func f), args, argTypes := ats }) (hS : C.S f = true) (hfs : C.fs f = [])
    {R : Value → World → Prop} (hB : Blind R) (hcall : ∀ σ, Calls P f (args.map a.eval) (w.on σ 0) fun e w' => ∃ v, e = .returned v ∧ R v w')
    (hn : ∀ v w', R v w' → w'.tape = w.tape → GoesW P true AtRel D0 Stop (G (b.at (a.put o.dst v) (.inRegion ops rest :: k)) cs) w') : GoesW P true AtRel D0 Stop (G (b.at a (.inRegion ops (i :: rest) :: k)) cs) w := by
  obtain ⟨fn, body, hfn, hname, hb, ht⟩ := hC.body f hS
  have hnm : (fn.name == "runtime.NumGoroutine") = false := by simpa using hname
  refine gw_go rfl (g' := G (Frame.enter P f (args.map a.eval) .normal) (b.at a (.inRegion ops (i :: rest) :: k) :: cs)) (fun d => ?_) ?_
  · have hb' : fn.body.isNone = false := by rw [hb]; rfl
    refine ⟨_, stepG_enter ho hw hk (run_call_body hop hfn hnm hb'), ?_⟩
    have : listed P b.fn a o (w.at d) = #[] := by unfold listed; rw [events_call_body hop hfn hnm hb']; exact seen_none P _
    rw [this]
    exact ev_nil
  · have hl := lift hC hB (fr₀ := Frame.enter P f (args.map a.eval) .normal) (ups₀ := []) (w₀ := w) (b.at a (.inRegion ops (i :: rest) :: k) :: cs) ⟨frOk_enter hC hS hfs _, fun c hc => by cases hc⟩ (fun σ => by
      obtain ⟨e, w', fr, hR, hc, hf, hl⟩ := hcall σ [trap]
      obtain ⟨v, rfl, hR⟩ := hR
      obtain ⟨n, hn⟩ : Steps P _ _ := hc
      exact ⟨n, fr, w', v, hn, hl, hf, hR⟩)
    refine hl.andThen fun g w₂ hS₂ => ?_
    refine gw_leave (hS₂ w₂ (at_self w₂)) fun v hR => ?_
    have := hn v w₂ hR.1 hR.2
    rw [Frame.finish_at, ho]
    exact this
end
theorem ev_append {P : Program} {fn : FuncId} {o : Oper} {a : Act} {w : World} (s x : Operand) (t : TypeId) (ho : o.op = .call { callee := .builtin .append, args := #[s, x], argTypes := #[t, t] }) : Ev (listed P fn a o w) := by
  refine ev_seen ?_
  rw [events_append_op s x t ho rfl rfl]
  exact runT_ev P _ (still_append _ _ _) w #[] ev_nil
/-! ### goroutine 0's course, over walks and phases -/
/-- From a at w, with any leavers beside it, the machine comes to a frame in which goroutine 0 stands at its stop. -/
def Course (P : Program) (Stop : Goroutine → World → Prop) (a : Goroutine) (w : World) : Prop :=
  ∀ (w₀ : World) (gs : Array Goroutine) (sl : Option (Nat × Nat)) (t : Trace) (q : Nat → Nat), AtRel w w₀ → gs[0]? = some a → Frm0 P t gs q →
    ∃ (N : Nat) (gs' : Array Goroutine) (a' : Goroutine) (w' : World) (sl' : Option (Nat × Nat)) (t' : Trace) (q' : Nat → Nat),
      runNT P N (crowd gs w₀ sl) t = (.next (crowd gs' w' sl'), t') ∧ gs'[0]? = some a' ∧ Stop a' w' ∧ Frm0 P t' gs' q'
section
variable {P : Program} {S S' : Goroutine → World → Prop} {a : Goroutine} {w : World}
theorem Course.goes (h : GoesW P true AtRel D0 S a w) : Course P S a w := by
  intro w₀ gs sl t q hr h0 F
  obtain ⟨N, gs', a', w', sl', t', q', hrun, _, h0', hS, F'⟩ := walkW h w₀ gs sl t q hr h0 F
  exact ⟨N, gs', a', w', sl', t', q', hrun, h0', hS, F'⟩
theorem Course.pipe (h : AtGoP P S a w) : Course P S a w := by
  intro w₀ gs sl t q hr h0 F
  obtain ⟨d, rfl⟩ := hr
  obtain ⟨N, gs', a', w', sl', t', q', hrun, _, h0', hS, F'⟩ := pipe_phase (w := w.at d) (sl := sl) h0 F ⟨h.1, fun d' => h.2 d'⟩
  exact ⟨N, gs', a', w', sl', t', q', hrun, h0', hS, F'⟩
theorem Course.andThen (h : Course P S a w) (k : ∀ g w, S g w → Course P S' g w) : Course P S' a w := by
  intro w₀ gs sl t q hr h0 F
  obtain ⟨N, gs₁, a₁, w₁, sl₁, t₁, q₁, hrun, h0₁, hS, F₁⟩ := h w₀ gs sl t q hr h0 F
  obtain ⟨M, gs₂, a₂, w₂, sl₂, t₂, q₂, hrun₂, h0₂, hS₂, F₂⟩ := k a₁ w₁ hS w₁ gs₁ sl₁ t₁ q₁ (at_self w₁) h0₁ F₁
  exact ⟨N + M, gs₂, a₂, w₂, sl₂, t₂, q₂, by rw [runNT_add, hrun]; exact hrun₂, h0₂, hS₂, F₂⟩
theorem Course.goesThen (h : GoesW P true AtRel D0 S a w) (k : ∀ g w, S g w → Course P S' g w) : Course P S' a w := (Course.goes h).andThen k
theorem Course.leave {f : FuncId} {R : Value → World → Prop} {c : Frame} {cs : List Frame} (h : AtLeave P f R (c :: cs) a w) (hn : ∀ v, R v w → Course P S (G (c.finish v) cs) w) : Course P S a w := by
  refine (Course.goes (S := fun g w' => ∃ v, g = G (c.finish v) cs ∧ R v w ∧ AtRel w w') (gw_leave h fun v hR => .stop fun w₁ h₁ => ⟨v, rfl, hR, h₁⟩)).andThen ?_
  rintro _ w' ⟨v, rfl, hR, ⟨d, rfl⟩⟩
  intro w₀ gs sl t q hr h0 F
  exact hn v hR w₀ gs sl t q (atRel_trans _ _ _ ⟨d, rfl⟩ hr) h0 F
theorem Course.of (h : GoesW P true AtRel D0 (Course P S) a w) : Course P S a w := (Course.goes h).andThen fun _ _ h => h
theorem Course.stop (h : S a w) (hS : ∀ d, S a (w.at d)) : Course P S a w := Course.goes (.stop fun w₁ ⟨d, hd⟩ => hd ▸ hS d)
/-- A CALL BY ITS COURSE. -/
theorem Course.call {b : Frame} {x : Act} {k : List Item} {cs : List Frame} {ops : Array Oper} {i : Nat} {rest : List Nat} {o : Oper} {f : FuncId} {fn : Func} {body : Code} {args : Array Operand} {ats : Array TypeId}
    (ho : ops[i]? = some o) (hw : Region.wanted o (yielded ops x.tmps) = true) (hk : b.kind ≠ .early) (hop : o.op = .call { callee := .value (.func f), args, argTypes := ats })
    (hfn : P.funcs[f]? = some fn) (hnm : (fn.name == "runtime.NumGoroutine") = false) (hb : fn.body = some body) {R : Value → World → Prop} {vs : Array Value} (hvs : args.map x.eval = vs)
    (hcall : Course P (AtLeave P f R (b.at x (.inRegion ops (i :: rest) :: k) :: cs)) (G (Frame.enter P f vs .normal) (b.at x (.inRegion ops (i :: rest) :: k) :: cs)) w)
    (hn : ∀ v w', R v w' → Course P S (G (b.at (x.put o.dst v) (.inRegion ops rest :: k)) cs) w') : Course P S (G (b.at x (.inRegion ops (i :: rest) :: k)) cs) w := by
  subst hvs
  refine Course.of (gw_go rfl (g' := G (Frame.enter P f (args.map x.eval) .normal) (b.at x (.inRegion ops (i :: rest) :: k) :: cs)) (fun d => ?_) (.stop fun w₁ h₁ => ?_))
  · have hb' : fn.body.isNone = false := by rw [hb]; rfl
    refine ⟨_, stepG_enter ho hw hk (run_call_body hop hfn hnm hb'), ?_⟩
    have : listed P b.fn x o (w.at d) = #[] := by unfold listed; rw [events_call_body hop hfn hnm hb']; exact seen_none P _
    rw [this]
    exact ev_nil
  · obtain ⟨d, rfl⟩ := h₁
    have hc : Course P (AtLeave P f R (b.at x (.inRegion ops (i :: rest) :: k) :: cs)) (G (Frame.enter P f (args.map x.eval) .normal) (b.at x (.inRegion ops (i :: rest) :: k) :: cs)) (w.at d) :=
      fun w₀ gs sl t q hr h0 F => hcall w₀ gs sl t q (atRel_trans _ _ _ ⟨d, rfl⟩ hr) h0 F
    refine hc.andThen fun g w₂ hL => ?_
    refine Course.leave hL fun v hR => ?_
    have := hn v w₂ hR
    rw [Frame.finish_at, ho]
    exact this
/-- THE REST OF A FUNCTION, by a lone walk from its midst. -/
theorem gw_rest {C : Chk} (hC : ChkOk P C) {f : FuncId} {fn : Func} (hf : P.funcs[f]? = some fn) (hL : C.L f = true) (hfs : C.fs f = []) {c : Code} (hT : tameCode C f c = true) {T : Array Value} {R : Value → World → Prop} (hB : Blind R)
    (hwp : ∀ σ, c.wp P (bodyPost P fn fun e w' => ∃ v, e = .returned v ∧ R v w') ⟨T, []⟩ (w.on σ 0)) (cs : List Frame) :
    GoesW P true AtRel D0 (AtLeave P f (fun v w' => R v w' ∧ w'.tape = w.tape) cs) (G ((base f).at ⟨T, []⟩ [.code c]) cs) w := by
  refine lift hC hB (fr₀ := (base f).at ⟨T, []⟩ [.code c]) (ups₀ := []) (w₀ := w) cs ⟨⟨.inr hL, rfl, rfl, rfl, fun x hx => ?_, fun j hj => ?_⟩, fun c hc => by cases hc⟩ (fun σ => ?_)
  · obtain rfl : x = .code c := by simpa [Frame.at] using hx
    exact hT
  · have : j ∈ C.fs f := hj
    rw [hfs] at this
    cases this
  · obtain ⟨e, a', w', hq, harr⟩ := hwp σ (base f) [] [trap]
    cases e with
    | normal =>
      obtain ⟨hd, v, hr, v', hv, hR⟩ := hq
      cases hv
      obtain ⟨n, hn⟩ := Steps.trans harr (.one step_end)
      exact ⟨n, _, w', v, hn, ⟨rfl, hd, rfl, fn, hf, hr⟩, rfl, hR⟩
    | ret =>
      obtain ⟨hd, v, hr, v', hv, hR⟩ := hq
      cases hv
      obtain ⟨todo, n, hn⟩ := harr
      exact ⟨n, _, w', v, hn, ⟨rfl, hd, rfl, fn, hf, hr⟩, rfl, hR⟩
    | panic chain => obtain ⟨_, v', hv, _⟩ := hq; cases hv
    | exit id => exact hq.elim
    | goto l => exact hq.elim
    | outgrown => obtain ⟨v', hv, _⟩ := hq; cases hv
/-- THE END. -/
theorem Course.ends {R : Value → World → Prop} (hB : ∀ v w d, R v w → R v (w.at d)) {f : FuncId} (h : Course P (AtLeave P f R []) a w) (hi : P.inits.idxOf? f = none) :
    ∃ N last o w' t', runNT P (N + 1) (solo a w) #[] = (.ended o w', t') ∧ runN P N (solo a w) = .next last ∧ step P last = .ended o w' ∧ Good P R last o w' t' := by
  obtain ⟨k, gs₁, a₁, w₁, sl₁, t₁, q₁, hk, h0₁, hS, F₁⟩ := h w #[a] none #[] (fun _ => 0) (at_self w) rfl (Frm0.begin P a)
  have hk1 : runNT P k (solo a w) #[] = (.next (crowd gs₁ w₁ sl₁), t₁) := hk
  obtain ⟨N, last, o, w', t', h1, h2, h3, h4⟩ := endsW hB sl₁ h0₁ F₁ hS hi
  refine ⟨k + N, last, o, w', t', ?_, ?_, h3, h4⟩
  · rw [Nat.add_assoc, runNT_add, hk1]; exact h1
  · rw [runN_add, ← runNT_fst P k _ #[], hk1]; exact h2
end
end Go.Proofs.Ytaeaacdjiijooaa.Lift
