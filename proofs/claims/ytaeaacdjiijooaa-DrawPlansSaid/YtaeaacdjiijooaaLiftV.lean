import Derived.Conc.Own
import Derived.Conc.Beside
import Derived.Conc.Fork
import Derived.Conc.Neutral
namespace Go.Proofs.Ytaeaacdjiijooaa.Lift
open Go Go.Conc Go.ConcN
/-- The world with another tape, read from another place. -/
def _root_.Go.World.on (w : World) (τ : Nat → Question → Nat) (d : Nat) : World := { w with tape := τ, drawn := d }
@[simp] theorem on_heap (w : World) (τ d) : (w.on τ d).heap = w.heap := rfl
@[simp] theorem on_os (w : World) (τ d) : (w.on τ d).os = w.os := rfl
@[simp] theorem on_tape (w : World) (τ d) : (w.on τ d).tape = τ := rfl
@[simp] theorem on_drawn (w : World) (τ d) : (w.on τ d).drawn = d := rfl
@[simp] theorem on_on (w : World) (τ d τ' d') : (w.on τ d).on τ' d' = w.on τ' d' := rfl
theorem on_self (w : World) : w.on w.tape w.drawn = w := rfl
@[simp] theorem on_cell (w : World) (τ d a) : (w.on τ d).cell? a = w.cell? a := rfl
@[simp] theorem on_frozen (w : World) (τ d a) : (w.on τ d).frozen? a = w.frozen? a := rfl
@[simp] theorem on_shape (w : World) (τ d r) : (w.on τ d).shape? r = w.shape? r := rfl
@[simp] theorem on_setCell (w : World) (τ d a v) : (w.on τ d).setCell a v = (w.setCell a v).on τ d := rfl
theorem on_freeze (w : World) (τ d a n) : (w.on τ d).freeze a n = (w.freeze a n).on τ d := by unfold World.freeze; split <;> rfl
theorem on_farLoad (p : Program) (w : World) (τ d a b) : (w.on τ d).farLoad p a b = w.farLoad p a b := by
  unfold World.farLoad
  rfl
theorem on_viewStore (p : Program) (w : World) (τ d at_ u k v b) : (w.on τ d).viewStore p at_ u k v b = (w.viewStore p at_ u k v b).map fun x => (x.1.on τ d, x.2) := by
  unfold World.viewStore
  have e : (w.on τ d).seen p at_ u k b = w.seen p at_ u k b := rfl
  rw [e]
  simp only [on_heap]
  split
  · rfl
  · simp only [bind, Except.bind, pure, Except.pure]
    cases w.seen p at_ u k b with
    | error e => rfl
    | ok r =>
      simp only
      cases v.bytes? with
      | none => rfl
      | some bytes =>
        simp only
        split
        · rfl
        · split <;> rfl
/-- A halt that is a panic, or the run's end. -/
def mild : Halt → Bool
  | .panic _ | .stuck _ | .unsupported _ => true
  | _ => false
/-- No call of the system's, no word of the library's but neutral ones, no halt that is a report. -/
def Still {α : Type} : Sem α → Prop
  | .pure _ => True
  | .halt h => mild h = true
  | .load _ _ k => ∀ v, Still (k v)
  | .store _ _ _ k => Still k
  | .new _ k => ∀ r, Still (k r)
  | .shape _ k => ∀ r, Still (k r)
  | .freeze _ _ k => Still k
  | .frozen _ k => ∀ b, Still (k b)
  | .getObj _ k => ∀ o, Still (k o)
  | .setObj _ _ k => Still k
  | .choose _ k => ∀ n, Still (k n)
  | .sys _ _ => False
  | .program k => ∀ p, Still (k p)
  | .mark m k => Conc.Neutral m ∧ Still k
theorem Still.bind {α β : Type} {s : Sem α} {f : α → Sem β} (hs : Still s) (hf : ∀ a, Still (f a)) : Still (s.bind f) := by
  induction s with
  | pure a => exact hf a
  | halt h => trivial
  | load m a k ih => exact fun v => ih v (hs v)
  | store m a v k ih => exact ih hs
  | new o k ih => exact fun v => ih v (hs v)
  | shape o k ih => exact fun v => ih v (hs v)
  | freeze a n k ih => exact ih hs
  | frozen a k ih => exact fun v => ih v (hs v)
  | getObj a k ih => exact fun v => ih v (hs v)
  | setObj r o k ih => exact ih hs
  | choose q k ih => exact fun v => ih v (hs v)
  | sys c k ih => exact hs.elim
  | program k ih => exact fun v => ih v (hs v)
  | mark m k ih => exact ⟨hs.1, ih hs.2⟩
/-- The world that a result bears. -/
def _root_.Go.Result.world {α : Type} : Result α → World
  | .ok _ w => w
  | .halt _ w => w
def _root_.Go.Result.on {α : Type} (r : Result α) (τ : Nat → Question → Nat) (d : Nat) : Result α :=
  match r with
  | .ok a w => .ok a (w.on τ d)
  | .halt h w => .halt h (w.on τ d)
/-- WHAT A RUN DOES HANGS ON THE ANSWERS THAT IT TAKES, AND ON NO OTHER. -/
theorem runT_on {α : Type} (P : Program) (s : Sem α) (hs : Still s) : ∀ (w : World) (es : Array Event), w.drawn ≤ (s.runT P w es).1.world.drawn ∧ (s.runT P w es).1.world.tape = w.tape ∧
    ∀ τ d, (∀ i, i < (s.runT P w es).1.world.drawn - w.drawn → τ (d + i) = w.tape (w.drawn + i)) → s.runT P (w.on τ d) es = ((s.runT P w es).1.on τ (d + ((s.runT P w es).1.world.drawn - w.drawn)), (s.runT P w es).2) := by
  induction s with
  | pure a => intro w es; exact ⟨Nat.le_refl _, rfl, fun τ d _ => by simp [Sem.runT, Result.world, Result.on]⟩
  | halt h => intro w es; exact ⟨Nat.le_refl _, rfl, fun τ d _ => by simp [Sem.runT, Result.world, Result.on]⟩
  | load m a k ih =>
    intro w es
    simp only [Sem.runT, on_cell, on_farLoad]
    cases w.cell? a with
    | some v => exact ih v (hs v) w _
    | none =>
      cases w.farLoad P a (m == .atomic) with
      | ok r => exact ih r.1 (hs _) w _
      | error h => exact ⟨Nat.le_refl _, rfl, fun τ d _ => by simp [Result.world, Result.on]⟩
  | store m a v k ih =>
    intro w es
    have ih := ih hs
    have key : ∀ (v : Value), (∀ (w : World) (es : Array Event), (Sem.store m a v k).runT P w es = match w.cell? a with
        | some _ => if w.frozen? a then (.halt (.unsupported (.unsafePointer "a write to bytes that a string shares")) w, es) else k.runT P (w.setCell a v) (es.push ⟨.cell a, true, m == .atomic⟩)
        | none => match w.farStore P a v (m == .atomic) with
          | .ok (w, touched) => k.runT P w (es ++ touched.toArray.map (⟨.cell ·, true, m == .atomic⟩))
          | .error h => (.halt h w, es)) → w.drawn ≤ ((Sem.store m a v k).runT P w es).1.world.drawn ∧ ((Sem.store m a v k).runT P w es).1.world.tape = w.tape ∧
        ∀ τ d, (∀ i, i < ((Sem.store m a v k).runT P w es).1.world.drawn - w.drawn → τ (d + i) = w.tape (w.drawn + i)) → (Sem.store m a v k).runT P (w.on τ d) es = (((Sem.store m a v k).runT P w es).1.on τ (d + (((Sem.store m a v k).runT P w es).1.world.drawn - w.drawn)), ((Sem.store m a v k).runT P w es).2) := by
      intro v e
      have e1 := e w es
      rw [e1]
      simp only [e, on_cell, on_frozen, on_setCell]
      cases hc : w.cell? a with
      | some u =>
        simp only
        by_cases hf : w.frozen? a = true
        · simp [hf, Result.world, Result.on]
        · have hf : w.frozen? a = false := by simpa using hf
          simp only [hf, Bool.false_eq_true, if_false]; exact ih (w.setCell a v) _
      | none =>
        simp only
        have hfar : ∀ τ d, (w.on τ d).farStore P a v (m == .atomic) = (w.farStore P a v (m == .atomic)).map fun x => (x.1.on τ d, x.2) := by
          intro τ d
          unfold World.farStore
          simp only [on_heap]
          cases w.heap[a.block]? with
          | none => rfl
          | some o =>
            cases o with
            | view at_ u =>
              simp only [on_viewStore]
              cases w.viewStore P at_ u a v (m == .atomic) <;> rfl
            | _ => rfl
        have hdr : ∀ r, w.farStore P a v (m == .atomic) = .ok r → r.1.drawn = w.drawn ∧ r.1.tape = w.tape := by
          intro r hr
          have h1 := hfar w.tape w.drawn
          rw [on_self, hr] at h1
          have h2 : r = (r.1.on w.tape w.drawn, r.2) := by injection h1
          have h3 : r.1 = r.1.on w.tape w.drawn := congrArg Prod.fst h2
          exact ⟨(congrArg World.drawn h3).trans rfl, (congrArg World.tape h3).trans rfl⟩
        simp only [hfar]
        cases hr : w.farStore P a v (m == .atomic) with
        | error h => exact ⟨Nat.le_refl _, rfl, fun τ d _ => by simp [Result.world, Result.on, Except.map]⟩
        | ok r =>
          obtain ⟨d1, d2⟩ := hdr r hr
          obtain ⟨w1, tl⟩ := r
          simp only [Except.map] at d1 d2 ⊢
          rw [← d1, ← d2]
          exact ih w1 _
    cases v with
    | agg c => exact ⟨Nat.le_refl _, rfl, fun τ d _ => by simp [Sem.runT, Result.world, Result.on]⟩
    | tuple c => exact ⟨Nat.le_refl _, rfl, fun τ d _ => by simp [Sem.runT, Result.world, Result.on]⟩
    | _ => exact key _ (fun w es => by simp only [Sem.runT]; rfl)
  | new o k ih => intro w es; exact ih _ (hs _) { w with heap := w.heap.push o } es
  | shape r k ih => intro w es; exact ih _ (hs _) w es
  | freeze a n k ih =>
    intro w es
    have h := ih hs (w.freeze a n) es
    have e1 : (w.freeze a n).drawn = w.drawn := by unfold World.freeze; split <;> rfl
    have e2 : (w.freeze a n).tape = w.tape := by unfold World.freeze; split <;> rfl
    rw [e1, e2] at h
    simp only [Sem.runT, on_freeze]
    exact h
  | frozen a k ih => intro w es; exact ih _ (hs _) w es
  | getObj r k ih =>
    intro w es
    simp only [Sem.runT, on_heap]
    cases w.heap[r]? with
    | none => exact ⟨Nat.le_refl _, rfl, fun τ d _ => by simp [Result.world, Result.on]⟩
    | some o => cases o <;> first | exact ih _ (hs _) w _ | exact ⟨Nat.le_refl _, rfl, fun τ d _ => by simp [Result.world, Result.on]⟩
  | setObj r o k ih =>
    intro w es
    simp only [Sem.runT, on_heap]
    cases w.heap[r]? with
    | none => exact ⟨Nat.le_refl _, rfl, fun τ d _ => by simp [Result.world, Result.on]⟩
    | some o' => cases o' <;> first | exact ih hs { w with heap := w.heap.setIfInBounds r o } _ | exact ⟨Nat.le_refl _, rfl, fun τ d _ => by simp [Result.world, Result.on]⟩
  | choose q k ih =>
    intro w es
    simp only [Sem.runT]
    by_cases hf : q.forced = true
    · simp only [if_pos hf]; exact ih 0 (hs _) w es
    · simp only [if_neg hf]
      obtain ⟨h1, h2, h3⟩ := ih (q.cut (w.tape w.drawn q)) (hs _) { w with drawn := w.drawn + 1 } es
      generalize hr : (k (q.cut (w.tape w.drawn q))).runT P { w with drawn := w.drawn + 1 } es = r at h1 h2 h3 ⊢
      simp only at h1 h2 h3
      refine ⟨by omega, h2, fun τ d h => ?_⟩
      have h0 := h 0 (by omega)
      simp only [Nat.add_zero] at h0
      have h3' := h3 τ (d + 1) (fun i hi => by have := h (i + 1) (by omega); rw [show d + 1 + i = d + (i + 1) by omega, this, show w.drawn + (i + 1) = w.drawn + 1 + i by omega])
      simp only [on_tape, on_drawn, h0]
      rw [show d + (r.1.world.drawn - w.drawn) = d + 1 + (r.1.world.drawn - (w.drawn + 1)) by omega]
      exact h3'
  | sys c k ih => exact hs.elim
  | program k ih => intro w es; exact ih P (hs _) w es
  | mark m k ih => intro w es; exact ih hs.2 w _
/-- 'Goes' without a count: g, in world w, comes to its stop, whatever R does to the world ahead of each step. -/
inductive GoesW (P : Program) (main : Bool) (R : World → World → Prop) (D : World → World → Array Event → Prop) (Stop : Goroutine → World → Prop) : Goroutine → World → Prop
  | stop {g : Goroutine} {w : World} (h : ∀ w₁, R w w₁ → Stop g w₁) : GoesW P main R D Stop g w
  | step {g : Goroutine} {w : World} (hs : g.status = .running) (hgo : ∀ w₁, R w w₁ → ∃ g' w' es, stepG P main g w₁ = .go g' w' es ∧ D w₁ w' es)
      (h : ∀ w₁ g' w' es, R w w₁ → stepG P main g w₁ = .go g' w' es → GoesW P main R D Stop g' w') : GoesW P main R D Stop g w
section
variable {P : Program} {main : Bool} {R : World → World → Prop} {D : World → World → Array Event → Prop} {Stop Stop' : Goroutine → World → Prop}
theorem GoesW.of_goes {n : Nat} : ∀ {g : Goroutine} {w : World}, Goes P main R D Stop n g w → GoesW P main R D Stop g w := by
  induction n with
  | zero => exact fun h => .stop h
  | succ n ih =>
    intro g w h
    rcases h with h | ⟨hs, h⟩
    · exact .stop h
    · refine .step hs (fun w₁ hr => ?_) (fun w₁ g' w' es hr hst => ?_)
      · have := h w₁ hr
        cases hst : stepG P main g w₁ with
        | go g' w' es => rw [hst, goes_go] at this; exact ⟨g', w', es, rfl, this.1⟩
        | _ => rw [hst] at this; exact this.elim
      · have := h w₁ hr
        rw [hst, goes_go] at this
        exact ih this.2
theorem GoesW.rely (trans : ∀ a b c, R a b → R b c → R a c) {g : Goroutine} {w w₁ : World} (h : GoesW P main R D Stop g w) (hr : R w w₁) : GoesW P main R D Stop g w₁ := by
  cases h with
  | stop h => exact .stop fun w₂ h₂ => h w₂ (trans _ _ _ hr h₂)
  | step hs hgo h => exact .step hs (fun w₂ h₂ => hgo w₂ (trans _ _ _ hr h₂)) (fun w₂ g' w' es h₂ hst => h w₂ g' w' es (trans _ _ _ hr h₂) hst)
/-- One walk behind another. -/
theorem GoesW.andThen {g : Goroutine} {w : World} (h : GoesW P main R D Stop g w) (hk : ∀ g w, (∀ w₁, R w w₁ → Stop g w₁) → GoesW P main R D Stop' g w) : GoesW P main R D Stop' g w := by
  induction h with
  | stop h => exact hk _ _ h
  | step hs hgo _ ih => exact .step hs hgo ih
end
section
variable {P : Program} {Shun : Loc → Prop} {B : Nat} {D : World → World → Array Event → Prop} {Stop : Goroutine → World → Prop}
theorem walk_besideW (hD : ∀ w w' es, D w w' es → ∀ e ∈ es, EvL Shun B e) {a : Goroutine} {w : World} (hG : GoesW P true AtRel D Stop a w) :
    ∀ (w₀ : World) (gs : Array Goroutine) (sl : Option (Nat × Nat)) (t : Trace) (q : Nat → Nat), AtRel w w₀ → gs[0]? = some a → Leavers P t gs q → Past Shun B t →
      ∃ (N : Nat) (gs' : Array Goroutine) (a' : Goroutine) (w' : World) (sl' : Option (Nat × Nat)) (t' : Trace) (q' : Nat → Nat),
        runNT P N (crowd gs w₀ sl) t = (.next (crowd gs' w' sl'), t') ∧ gs'.size = gs.size ∧ gs'[0]? = some a' ∧ Stop a' w' ∧ Leavers P t' gs' q' ∧ Past Shun B t' := by
  induction hG with
  | stop h => exact fun w₀ gs sl t q hr h0 hL hP => ⟨0, gs, _, w₀, sl, t, q, rfl, rfl, h0, h w₀ hr, hL, hP⟩
  | @step g w hs hgo _ ih =>
    intro w₀ gs sl t q hr h0 hL hP
    have one : Goes P true AtRel D (fun g' w' => ∃ w₁ w₂ es, AtRel w w₁ ∧ stepG P true g w₁ = .go g' w₂ es ∧ AtRel w₂ w') 1 g w₀ := by
      refine .inr ⟨hs, fun w₁ h₁ => ?_⟩
      have hr₁ := atRel_trans _ _ _ hr h₁
      obtain ⟨g', w', es, hst, hd⟩ := hgo w₁ hr₁
      rw [hst, goes_go]
      exact ⟨hd, fun w₂ h₂ => ⟨w₁, w', es, hr₁, hst, h₂⟩⟩
    obtain ⟨N, gs₁, a₁, w₁', sl₁, t₁, q₁, hrun, hsz, h0₁, ⟨w₁, w₂, es, hr₁, hst, hr₂⟩, hL₁, hP₁⟩ := walk_beside hD _ 1 gs g w₀ sl t q (Nat.le_refl _) h0 hL hP one
    obtain ⟨M, gs₂, a₂, w₂', sl₂, t₂, q₂, hrun₂, hsz₂, h0₂, hS, hL₂, hP₂⟩ := ih w₁ a₁ w₂ es hr₁ hst w₁' gs₁ sl₁ t₁ q₁ hr₂ h0₁ hL₁ hP₁
    exact ⟨N + M, gs₂, a₂, w₂', sl₂, t₂, q₂, by rw [runNT_add, hrun]; exact hrun₂, hsz₂.trans hsz, h0₂, hS, hL₂, hP₂⟩
end
theorem solo_goesW {P : Program} {Stop : Goroutine → World → Prop} {a : Goroutine} {w : World} (h : GoesW P true Eq D0 Stop a w) :
    ∀ t : Trace, ∃ k a' w' u, runNT P k (solo a w) t = (.next (solo a' w'), t ++ u) ∧ Stop a' w' ∧ Wordless u ∧ ∀ op ∈ u, op.g = 0 := by
  induction h with
  | stop h => exact fun t => ⟨0, _, _, #[], by simp [runNT], h _ rfl, by intro op hop; simp at hop, by intro op hop; simp at hop⟩
  | @step g w hs hgo _ ih =>
    intro t
    have one : Goes P true Eq D0 (fun g' w' => ∃ es, stepG P true g w = .go g' w' es) 1 g w := by
      refine .inr ⟨hs, fun w₁ h₁ => ?_⟩
      subst h₁
      obtain ⟨g', w', es, hst, hd⟩ := hgo w rfl
      rw [hst, goes_go]
      exact ⟨hd, fun w₂ h₂ => by subst h₂; exact ⟨es, rfl⟩⟩
    obtain ⟨k, a', w', u, hr, ⟨es, hst⟩, hu, h0⟩ := solo_goes t one
    obtain ⟨k', a'', w'', u', hr', hS, hu', h0'⟩ := ih w a' w' es rfl hst (t ++ u)
    exact ⟨k + k', a'', w'', u ++ u', by rw [runNT_add, hr, ← Array.append_assoc]; exact hr', hS, hu.append hu', fun op hop => (Array.mem_append.1 hop).elim (h0 op) (h0' op)⟩
/-- The lone goroutine comes to Q. -/
inductive Reach (P : Program) (Q : Goroutine → World → Prop) : Goroutine → World → Prop
  | here {g : Goroutine} {w : World} (h : Q g w) : Reach P Q g w
  | next {g g' : Goroutine} {w w' : World} {es : Array Event} (h : stepG P true g w = .go g' w' es) (hr : Reach P Q g' w') : Reach P Q g w
/-- What g's step does hangs on the answers that it takes and on no other. -/
def Local (P : Program) (g : Goroutine) : Prop :=
  ∀ w : World, ∃ N, ∀ (σ : Nat → Question → Nat) (e : Nat), (∀ i, i < N → σ (e + i) = w.tape (w.drawn + i)) →
    (∀ g' w' es, stepG P true g w = .go g' w' es → stepG P true g (w.on σ e) = .go g' (w'.on σ (e + N)) es) ∧
    ((∀ g' w' es, stepG P true g w ≠ .go g' w' es) → ∀ g' w' es, stepG P true g (w.on σ e) ≠ .go g' w' es)
section
variable {P : Program} {D : World → World → Array Event → Prop} {Stop : Goroutine → World → Prop} {Inv : Goroutine → Prop}
theorem goesW_of_reach (hL : ∀ g, Inv g → Local P g) (hrun : ∀ g, Inv g → g.status = .running)
    (hgo : ∀ g w g' w' es, Inv g → stepG P true g w = .go g' w' es → D w w' es ∧ (Inv g' ∨ Stop g' w'))
    (hB : ∀ g w τ d, Stop g w → Stop g (w.on τ d)) (g : Goroutine) (w : World) (hi : Inv g) (hR : ∀ σ, Reach P Stop g (w.on σ 0)) : GoesW P true AtRel D Stop g w := by
  classical
  refine Classical.byContradiction fun hn => ?_
  let Bad (g : Goroutine) (w : World) : Prop := Inv g ∧ ¬ GoesW P true AtRel D Stop g w
  have pick : ∀ (g : Goroutine) (w : World), ∃ d : Nat, Bad g w → (∀ g' w' es, stepG P true g (w.at d) ≠ .go g' w' es) ∨ ∃ g' w' es, stepG P true g (w.at d) = .go g' w' es ∧ Bad g' w' := by
    intro g w
    refine Classical.byContradiction fun hc => ?_
    have hc' : ∀ d, Bad g w ∧ ¬ ((∀ g' w' es, stepG P true g (w.at d) ≠ .go g' w' es) ∨ ∃ g' w' es, stepG P true g (w.at d) = .go g' w' es ∧ Bad g' w') := fun d => by
      refine Classical.byContradiction fun h => hc ⟨d, fun hb => Classical.byContradiction fun h' => h ⟨hb, h'⟩⟩
    have hb := (hc' 0).1
    refine hb.2 (.step (hrun _ hb.1) ?_ ?_)
    · rintro _ ⟨d, rfl⟩
      refine Classical.byContradiction fun h => (hc' d).2 (.inl fun g' w' es hst => h ⟨g', w', es, hst, (hgo _ _ _ _ _ hb.1 hst).1⟩)
    · rintro _ g' w' es ⟨d, rfl⟩ hst
      refine Classical.byContradiction fun h => ?_
      rcases (hgo _ _ _ _ _ hb.1 hst).2 with hi' | hs
      · exact (hc' d).2 (.inr ⟨g', w', es, hst, hi', h⟩)
      · exact h (.stop fun w₁ ⟨d', h'⟩ => h' ▸ hB _ _ w'.tape d' hs)
  obtain ⟨d, hd⟩ := Classical.skolem.1 fun g => Classical.skolem.1 (pick g)
  have num : ∀ (g : Goroutine) (w : World), ∃ N : Nat, Inv g → ∀ (σ : Nat → Question → Nat) (e : Nat), (∀ i, i < N → σ (e + i) = (w.at (d g w)).tape ((w.at (d g w)).drawn + i)) →
    (∀ g' w' es, stepG P true g (w.at (d g w)) = .go g' w' es → stepG P true g ((w.at (d g w)).on σ e) = .go g' (w'.on σ (e + N)) es) ∧
    ((∀ g' w' es, stepG P true g (w.at (d g w)) ≠ .go g' w' es) → ∀ g' w' es, stepG P true g ((w.at (d g w)).on σ e) ≠ .go g' w' es) := fun g w => by
    by_cases h : Inv g
    · obtain ⟨N, hN⟩ := hL g h (w.at (d g w))
      exact ⟨N, fun _ => hN⟩
    · exact ⟨0, fun h' => absurd h' h⟩
  obtain ⟨N, hN⟩ := Classical.skolem.1 fun g => Classical.skolem.1 (num g)
  let F (x : Goroutine × World × Nat) : Goroutine × World × Nat :=
    match stepG P true x.1 (x.2.1.at (d x.1 x.2.1)) with
    | .go g' w' _ => (g', w', x.2.2 + N x.1 x.2.1)
    | _ => (x.1, x.2.1, x.2.2 + N x.1 x.2.1)
  let s (i : Nat) : Goroutine × World × Nat := Nat.rec (g, w, 0) (fun _ x => F x) i
  have hsucc : ∀ i, s (i + 1) = F (s i) := fun _ => rfl
  have hK : ∀ i, (s (i + 1)).2.2 = (s i).2.2 + N (s i).1 (s i).2.1 := by
    intro i
    rw [hsucc]
    simp only [F]
    split <;> rfl
  have hmono : ∀ i j, i ≤ j → (s i).2.2 ≤ (s j).2.2 := by
    intro i j hij
    induction hij with
    | refl => exact Nat.le_refl _
    | step _ ih => exact Nat.le_trans ih (by rw [hK]; exact Nat.le_add_right _ _)
  let σ (n : Nat) : Question → Nat := if h : ∃ i, (s i).2.2 ≤ n ∧ n < (s (i + 1)).2.2 then
      (s h.choose).2.1.tape (d (s h.choose).1 (s h.choose).2.1 + (n - (s h.choose).2.2)) else fun _ => 0
  have hσ : ∀ i k, k < N (s i).1 (s i).2.1 → σ ((s i).2.2 + k) = (s i).2.1.tape (d (s i).1 (s i).2.1 + k) := by
    intro i k hk
    have h : ∃ j, (s j).2.2 ≤ (s i).2.2 + k ∧ (s i).2.2 + k < (s (j + 1)).2.2 := ⟨i, Nat.le_add_right _ _, by rw [hK]; omega⟩
    have hu : h.choose = i := by
      have hc := h.choose_spec
      rcases Nat.lt_trichotomy h.choose i with hlt | he | hgt
      · have := hmono (h.choose + 1) i hlt
        omega
      · exact he
      · have := hmono (i + 1) h.choose hgt
        rw [hK] at this
        omega
    simp only [σ]
    rw [dif_pos h, hu]
    congr 1
    omega
  have key : ∀ g' w', Reach P Stop g' w' → ∀ i, Bad (s i).1 (s i).2.1 → g' = (s i).1 → w' = (s i).2.1.on σ (s i).2.2 → False := by
    intro g' w' hr
    induction hr with
    | here h =>
      rintro i hb rfl rfl
      refine hb.2 (.stop fun w₁ ⟨d', h'⟩ => ?_)
      subst h'
      have := hB (s i).1 ((s i).2.1.on σ (s i).2.2) (s i).2.1.tape d' h
      exact this
    | next h hr ih =>
      rintro i hb rfl rfl
      have hw := hN (s i).1 (s i).2.1 hb.1 σ (s i).2.2 (fun k hk => hσ i k hk)
      have he : ((s i).2.1.at (d (s i).1 (s i).2.1)).on σ (s i).2.2 = (s i).2.1.on σ (s i).2.2 := rfl
      rw [he] at hw
      rcases hd (s i).1 (s i).2.1 hb with hno | ⟨g₁, w₁, es₁, hst, hb'⟩
      · exact hw.2 hno _ _ _ h
      · have h2 := hw.1 _ _ _ hst
        rw [h] at h2
        injection h2 with e1 e2 e3
        have hs1 : s (i + 1) = (g₁, w₁, (s i).2.2 + N (s i).1 (s i).2.1) := by
          rw [hsucc]
          simp only [F, hst]
        exact ih (i + 1) (by rw [hs1]; exact hb') (by rw [hs1]; exact e1) (by rw [hs1]; exact e2)
  exact key g _ (hR σ) 0 ⟨hi, hn⟩ rfl rfl
end
end Go.Proofs.Ytaeaacdjiijooaa.Lift
