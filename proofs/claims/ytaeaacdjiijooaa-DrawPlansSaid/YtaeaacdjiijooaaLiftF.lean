import Derived.Test.YtaeaacdjiijooaaLiftR
import Derived.Conc.TokenTrace
import Derived.Conc.CrowdSel
import Derived.Conc.PipeGen
namespace Go.Proofs.Ytaeaacdjiijooaa.Lift
open Go Go.Conc
open Go.ConcN (sumTo upd sumTo_upd upd_ne upd_same)
set_option linter.unusedVariables false
/-! ### the frame: goroutine 0, others that are spoken of, and leavers -/
theorem act_low (x : MemAct) : ∃ B, x.low B := by
  cases x with
  | access e =>
    obtain ⟨loc, wr, sy⟩ := e
    cases loc with
    | cell a => exact ⟨a.block + 1, Nat.lt_succ_self _⟩
    | obj r => exact ⟨r + 1, Nat.lt_succ_self _⟩
    | _ => exact ⟨0, trivial⟩
  | mark m =>
    cases m <;> first | exact ⟨0, trivial⟩ | exact ⟨_, Nat.lt_succ_self _⟩
  | _ => first | exact ⟨0, trivial⟩ | exact ⟨_, Nat.lt_succ_self _⟩
theorem low_list : ∀ u : List MemOp, ∃ B, ∀ op ∈ u, op.act.low B
  | [] => ⟨0, fun _ h => by cases h⟩
  | x :: u => by
    obtain ⟨B, hB⟩ := low_list u
    obtain ⟨B', hB'⟩ := act_low x.act
    refine ⟨max B B', fun op hop => ?_⟩
    rcases List.mem_cons.1 hop with rfl | hop
    · exact MemAct.low_mono (Nat.le_max_right _ _) hB'
    · exact MemAct.low_mono (Nat.le_max_left _ _) (hB op hop)
theorem low_some (u : Trace) : ∃ B, ∀ op ∈ u, op.act.low B := by
  obtain ⟨B, h⟩ := low_list u.toList
  exact ⟨B, fun op hop => h op (by simpa using hop)⟩
theorem deafStep_ne {g : Nat} {op : MemOp} (h : op.g ≠ g) (d : Nat) : deafStep g d op = d := by
  unfold deafStep
  split <;> simp [h]
theorem deafStep_still {g : Nat} {op : MemOp} (h1 : op.act ≠ .mark .disable) (h2 : op.act ≠ .mark .enable) (d : Nat) : deafStep g d op = d := by
  unfold deafStep
  split
  · rename_i h; exact absurd h h1
  · rename_i h; exact absurd h h2
  · rfl
def NoL : Loc → Prop := fun _ => False
def NoG : Nat → Prop := fun _ => False
def At0 : Nat → Prop := fun i => i = 0
/-- What is held of the trace while goroutine 0 alone writes. -/
def PastE (Still : Loc → Prop) (Mem Loose : Nat → Prop) (t : Trace) : Prop := ∃ B, PastH Still Mem Loose B 0 t
section
variable {Still : Loc → Prop} {Mem Loose : Nat → Prop} {t u : Trace}
theorem PastE.app0 (H : PastE Still Mem Loose t) (h0 : Mem 0) (hu : ∀ op ∈ u, op.g = 0) (hs : ∀ op ∈ u, ∀ b, op.act.touch? = some b → Still b.loc → b.write = false) (hq : ∀ op ∈ u, ∀ d, deafStep 0 d op = d) : PastE Still Mem Loose (t ++ u) := by
  obtain ⟨B, H⟩ := H
  obtain ⟨B', hB'⟩ := low_some u
  exact ⟨max B B', PastH.appH (PastG.mono H (Nat.le_max_left _ _)) hu hs (Deaf_quiet hq) (fun op hop => MemAct.low_mono (Nat.le_max_right _ _) (hB' op hop))⟩
theorem PastE.read {g : Nat} (H : PastE Still Mem Loose t) (hg : Mem g) (hL : Loose g) (hu : ∀ op ∈ u, op.g = g) (hr : ∀ op ∈ u, ∀ b, op.act.touch? = some b → b.write = false ∧ Still b.loc) (hq : ∀ op ∈ u, ∀ d, deafStep g d op = d) : PastE Still Mem Loose (t ++ u) := by
  obtain ⟨B, H⟩ := H
  obtain ⟨B', hB'⟩ := low_some u
  exact ⟨max B B', PastH.appRead (PastG.mono H (Nat.le_max_left _ _)) hg hL hu hr (Deaf_quiet hq) (fun op hop => MemAct.low_mono (Nat.le_max_right _ _) (hB' op hop))⟩
/-- Operations that touch nothing, whoever makes them. -/
theorem PastE.mute (H : PastE Still Mem Loose t) (hn : ∀ op ∈ u, op.act.touch? = none) (hq : ∀ g, Mem g → ∀ op ∈ u, ∀ d, deafStep g d op = d) : PastE Still Mem Loose (t ++ u) := by
  obtain ⟨B, H⟩ := H
  obtain ⟨B', hB'⟩ := low_some u
  have H := PastG.mono H (Nat.le_max_left B B')
  refine ⟨max B B', fun said => noRace_appendMute (H.clean said) hn, fun i a ha hm => ?_, fun i a ha hw hS g hg => ?_, fun g hg => (Deaf_quiet (hq g hg)).trans (H.hears g hg), seen_app H.seen fun op hop => MemAct.low_mono (Nat.le_max_right _ _) (hB' op hop)⟩
  · obtain ⟨x, hx, hxa⟩ := touch_of ha
    rcases getElem?_append_cases hx with ⟨_, hx'⟩ | ⟨_, hxu⟩
    · exact PastG.old_known H (fun i => Knows.app u) hx' hxa hm
    · rw [hn x hxu] at hxa; cases hxa
  · obtain ⟨x, hx, hxa⟩ := touch_of ha
    rcases getElem?_append_cases hx with ⟨_, hx'⟩ | ⟨_, hxu⟩
    · exact (H.wrote i a (by rw [touchAt_of hx']; exact hxa) hw hS g hg).app u
    · rw [hn x hxu] at hxa; cases hxa
/-- Goroutine g has closed channel c and has touched nothing since; goroutine 0 finds it closed: g is loose no more. -/
theorem PastE.found {c g : Nat} (H : PastE Still Mem Loose t) (h0 : Mem 0) {pc : Nat} {opc : MemOp} (hpc : t[pc]? = some opc) (hg : opc.g = g) (hact : opc.act = .close c) (hheard : t.heard pc)
    (hlast : ∀ i op, t[i]? = some op → op.g = g → op.act.touch? ≠ none → i < pc) (fn : FuncId) (pos : String) :
    PastE Still Mem (fun x => Loose x ∧ x ≠ g) (t ++ #[{ g := 0, fn := fn, pos := pos, act := .recvClosed c }]) := by
  obtain ⟨B, H⟩ := H
  generalize hu : (#[{ g := 0, fn := fn, pos := pos, act := .recvClosed c }] : Trace) = u
  have hn : ∀ op ∈ u, op.act.touch? = none := by
    intro op hop
    subst hu
    simp only [List.mem_toArray, List.mem_cons, List.not_mem_nil, or_false] at hop
    subst hop; rfl
  have hq : ∀ g, ∀ op ∈ u, ∀ d, deafStep g d op = d := by
    intro g op hop d
    subst hu
    simp only [List.mem_toArray, List.mem_cons, List.not_mem_nil, or_false] at hop
    subst hop; rfl
  have e0 : (t ++ u)[t.size]? = some { g := 0, fn := fn, pos := pos, act := .recvClosed c } := by subst hu; simp
  have hlt := lt_size_of_getElem? hpc
  have hpc' : (t ++ u)[pc]? = some opc := by rw [getElem?_append_old hlt]; exact hpc
  have edge : HappensBefore (t ++ u) pc t.size :=
    Relation.TransGen.single (.inr ⟨.closed (by rw [act?_of hpc', hact]) (act?_of e0), (heard_old hlt).2 hheard, ⟨0, g?_of e0, by rw [deaf_old (Nat.le_refl _)]; exact H.hears 0 h0⟩⟩)
  obtain ⟨B', hB'⟩ := low_some u
  have H := PastG.mono H (Nat.le_max_left B B')
  refine ⟨max B B', fun said => noRace_appendMute (H.clean said) hn, fun i a ha hm => ?_, fun i a ha hw hS g hg => ?_, fun g hg => (Deaf_quiet (hq g)).trans (H.hears g hg), seen_app H.seen fun op hop => MemAct.low_mono (Nat.le_max_right _ _) (hB' op hop)⟩
  · obtain ⟨x, hx, hxa⟩ := touch_of ha
    rcases getElem?_append_cases hx with ⟨hi, hx'⟩ | ⟨_, hxu⟩
    · rcases H.known i a (by rw [touchAt_of hx']; exact hxa) hm with hk | ⟨p, q, g', hg', hl⟩
      · exact .inl (hk.app u)
      · by_cases e : g' = g
        · subst e
          have hxg : x.g = g' := by have := g?_of hx'; rw [hg'] at this; exact (Option.some.inj this).symm
          have hlt' := hlast i x hx' hxg (by rw [hxa]; simp)
          exact .inl ⟨t.size, _, e0, rfl, .inr ((hb_po hlt' hx hpc' (hxg.trans hg.symm)).trans edge)⟩
        · exact .inr ⟨p, q, g', by rw [g?_old hi]; exact hg', hl, e⟩
    · rw [hn x hxu] at hxa; cases hxa
  · obtain ⟨x, hx, hxa⟩ := touch_of ha
    rcases getElem?_append_cases hx with ⟨_, hx'⟩ | ⟨_, hxu⟩
    · exact (H.wrote i a (by rw [touchAt_of hx']; exact hxa) hw hS g hg).app u
    · rw [hn x hxu] at hxa; cases hxa
end
theorem ev_ops0 {es : Array Event} (h : Ev es) (g : Nat) (fn : FuncId) (pos : String) : (∀ op ∈ MemOp.ofEvents g fn pos es, op.g = g) ∧ ∀ op ∈ MemOp.ofEvents g fn pos es, ∀ g' d, deafStep g' d op = d := by
  refine ⟨fun op hop => ?_, fun op hop g' d => ?_⟩ <;> obtain ⟨e, he, rfl⟩ := Go.Conc.mem_ofEvents hop
  · rfl
  · have hw := ofEvent_noMark (h e he)
    exact deafStep_still (fun e => (hw _ e).ne_disable rfl) (fun e => (hw _ e).ne_enable rfl) d
structure Frm (P : Program) (Sp : Nat → Prop) (Still : Loc → Prop) (Mem Loose : Nat → Prop) (t : Trace) (gs : Array Goroutine) (q : Nat → Nat) : Prop where
  old : ∀ i g, ¬ Sp i → gs[i]? = some g → 0 < i ∧ QuitsD P (q i) (Deaf t i) g
  above : ∀ j, gs.size ≤ j → Deaf t j = 0
  past : PastE Still Mem Loose t
  mem : ∀ i, Mem i → Sp i
section
variable {P : Program} {Sp : Nat → Prop} {Still : Loc → Prop} {Mem Loose : Nat → Prop} {t : Trace} {gs : Array Goroutine} {q : Nat → Nat}
theorem Frm.turn (F : Frm P Sp Still Mem Loose t gs q) {gs' : Array Goroutine} {u : Trace} {Still' : Loc → Prop} {Mem' Loose' : Nat → Prop} (hsz : gs'.size = gs.size) (hoth : ∀ x, ¬ Sp x → gs'[x]? = gs[x]?)
    (hu : ∀ op ∈ u, Sp op.g ∧ op.g < gs.size) (hp : PastE Still' Mem' Loose' (t ++ u)) (hm : ∀ i, Mem' i → Sp i) : Frm P Sp Still' Mem' Loose' (t ++ u) gs' q := by
  refine ⟨fun i g hi hg => ?_, fun j hj => ?_, hp, hm⟩
  · rw [hoth i hi] at hg
    obtain ⟨h0, hq⟩ := F.old i g hi hg
    refine ⟨h0, ?_⟩
    rw [Deaf_quiet fun op hop d => deafStep_ne (fun e => hi (by rw [← e]; exact (hu op hop).1)) d]
    exact hq
  · rw [Deaf_quiet fun op hop d => deafStep_ne (fun e => by have := (hu op hop).2; omega) d]
    exact F.above j (by omega)
theorem map_woken {g g' : Goroutine} {w' : World} {i : Nat} (h : ∀ x y, x ≠ i → gs[x]? = some y → y.again w' = y) (gi : Goroutine) (x : Nat) (hx : x ≠ i) :
    ((gs.map (woken P g g' w')).setIfInBounds i gi)[x]? = gs[x]? := by
  rw [Array.getElem?_setIfInBounds_ne (fun e => hx e.symm), Array.getElem?_map]
  cases e : gs[x]? with
  | none => rfl
  | some y =>
    simp only [Option.map_some]
    unfold woken
    split
    · rw [h x y hx e]
    · rfl
theorem Frm.again (F : Frm P Sp Still Mem Loose t gs q) {x : Nat} {y : Goroutine} (hx : ¬ Sp x) (hy : gs[x]? = some y) (w : World) : y.again w = y := again_running w (F.old x y hx hy).2.status
/-- A leaver slips. -/
theorem Frm.slip (F : Frm P Sp Still Mem Loose t gs q) {i : Nat} {g : Goroutine} {w : World} {sl : Option (Nat × Nat)} (hi : gs[i]? = some g) (hsp : ¬ Sp i) (hrun : g.status = .running)
    (hsA : ∀ x gx, Sp x → gs[x]? = some gx → gx.again w = gx) :
    ∃ gs' ops q', runT P (crowd gs w sl) i = (.next (crowd gs' w sl), ops) ∧ gs'.size = gs.size ∧ (∀ x, Sp x → gs'[x]? = gs[x]?) ∧ Frm P Sp Still Mem Loose (t ++ ops) gs' q' ∧ sumTo gs'.size q' < sumTo gs.size q ∧
      (∀ op ∈ ops, op.g = i ∧ op.act.touch? = none) := by
  have hlt : i < gs.size := (Array.getElem?_eq_some_iff.1 hi).1
  obtain ⟨hpos, hq⟩ := F.old i g hsp hi
  have hi0 : (i == 0) = false := by simp; omega
  cases hqi : q i with
  | zero => rw [hqi] at hq; rw [hq.1] at hrun; cases hrun
  | succ k =>
    rw [hqi] at hq
    rcases hq with ⟨hf, _⟩ | ⟨_, g', es, hm, hstp, hq'⟩
    · rw [hf] at hrun; cases hrun
    have hrunT := runT_crowd_go (P := P) (sl := sl) (i := i) hi (by rw [hi0]; exact hstp w)
    have hfix := map_woken (P := P) (gs := gs) (g := g) (g' := g') (w' := w) (i := i) (fun x y hx hy => by
      by_cases h : Sp x
      · exact hsA x y h hy
      · exact F.again h hy w) g'
    have hops : ∀ op ∈ MemOp.ofEvents i g.frame.fn g.frame.place es, op.g = i := fun op hop => by obtain ⟨e, _, rfl⟩ := Go.Conc.mem_ofEvents hop; rfl
    have htch : ∀ op ∈ MemOp.ofEvents i g.frame.fn g.frame.place es, op.act.touch? = none := fun op hop => by obtain ⟨e, he, rfl⟩ := Go.Conc.mem_ofEvents hop; exact touch_mute (hm e he)
    refine ⟨_, _, upd q i k, hrunT, by simp, fun x hx => hfix x (fun e => hsp (e ▸ hx)), ⟨fun x y hx hy => ?_, fun j hj => ?_, ?_, F.mem⟩, ?_, fun op hop => ⟨hops op hop, htch op hop⟩⟩
    · by_cases e : x = i
      · subst e
        rw [Array.getElem?_setIfInBounds_self_of_lt (by simpa using hlt)] at hy
        obtain rfl := Option.some.inj hy
        rw [upd_same, Deaf_own]
        exact ⟨hpos, hq'⟩
      · rw [hfix x e] at hy
        rw [upd_ne q k e, Deaf_other t (fun z => e z.symm) _ hops]
        exact F.old x y hx hy
    · rw [Deaf_other t (g' := i) (by simp at hj; omega) _ hops]
      exact F.above j (by simpa using hj)
    · exact F.past.mute htch fun g' hg' op hop d => deafStep_ne (fun e => hsp (by rw [← hops op hop, e]; exact F.mem _ hg')) d
    · have h2 : sumTo gs.size (upd q i k) + (k + 1) = sumTo gs.size q + k := by
        have := sumTo_upd q k id hlt
        simpa [hqi] using this
      have : ((gs.map (woken P g g' w)).setIfInBounds i g').size = gs.size := by simp
      rw [this]
      omega
/-! ### a walk of goroutine 0's beside leavers -/
/-- The frame between two calls that go. -/
abbrev Frm0 (P : Program) (t : Trace) (gs : Array Goroutine) (q : Nat → Nat) : Prop := Frm P At0 NoL At0 NoG t gs q
theorem Frm0.begin (P : Program) (a : Goroutine) : Frm0 P #[] #[a] (fun _ => 0) := by
  refine ⟨fun i g hi hg => ?_, fun j hj => rfl, ⟨0, PastH.ofPast past_nil (fun l h => h.elim)⟩, fun i h => h⟩
  have : i < 1 := by simpa using (Array.getElem?_eq_some_iff.1 hg).1
  exact absurd (show i = 0 by omega) hi
theorem Frm0.awake (F : Frm0 P t gs q) {a : Goroutine} (h0 : gs[0]? = some a) (hrun : a.status = .running) : ∀ g ∈ gs, awake g := by
  intro g hg
  obtain ⟨i, hi, rfl⟩ := Array.mem_iff_getElem.1 hg
  by_cases h : i = 0
  · subst h
    have : gs[0] = a := by simpa [Array.getElem?_eq_getElem hi] using h0
    rw [this]; exact awake_of (.inl hrun)
  · exact awake_of ((F.old i _ h (Array.getElem?_eq_getElem hi)).2.status.elim .inl fun x => .inr (.inr x))
theorem Frm0.step {a a' : Goroutine} {w' : World} {es : Array Event} (F : Frm0 P t gs q) (h0 : gs[0]? = some a) (he : Ev es) :
    ((gs.map (woken P a a' w')).setIfInBounds 0 a')[0]? = some a' ∧ ((gs.map (woken P a a' w')).setIfInBounds 0 a').size = gs.size ∧
      Frm0 P (t ++ MemOp.ofEvents 0 a.frame.fn a.frame.place es) ((gs.map (woken P a a' w')).setIfInBounds 0 a') q := by
  have hlt : 0 < gs.size := (Array.getElem?_eq_some_iff.1 h0).1
  obtain ⟨ho, hd⟩ := ev_ops0 he 0 a.frame.fn a.frame.place
  refine ⟨Array.getElem?_setIfInBounds_self_of_lt (by simpa using hlt), by simp, ?_⟩
  refine F.turn (by simp) (fun x hx => map_woken (fun y z hy hz => F.again (fun e => hy e) hz _) _ x hx) (fun op hop => ⟨ho op hop, by rw [ho op hop]; exact hlt⟩) ?_ F.mem
  exact F.past.app0 rfl ho (fun op hop b _ hb => hb.elim) (fun op hop d => hd op hop 0 d)
theorem walkW {Stop : Goroutine → World → Prop} {a : Goroutine} {w : World} (hG : GoesW P true AtRel D0 Stop a w) :
    ∀ (w₀ : World) (gs : Array Goroutine) (sl : Option (Nat × Nat)) (t : Trace) (q : Nat → Nat), AtRel w w₀ → gs[0]? = some a → Frm0 P t gs q →
      ∃ (N : Nat) (gs' : Array Goroutine) (a' : Goroutine) (w' : World) (sl' : Option (Nat × Nat)) (t' : Trace) (q' : Nat → Nat),
        runNT P N (crowd gs w₀ sl) t = (.next (crowd gs' w' sl'), t') ∧ gs'.size = gs.size ∧ gs'[0]? = some a' ∧ Stop a' w' ∧ Frm0 P t' gs' q' := by
  induction hG with
  | stop h => exact fun w₀ gs sl t q hr h0 F => ⟨0, gs, _, w₀, sl, t, q, rfl, rfl, h0, h w₀ hr, F⟩
  | @step a w hs hgo _ ih =>
    have inner : ∀ (M : Nat) (w₀ : World) (gs : Array Goroutine) (sl : Option (Nat × Nat)) (t : Trace) (q : Nat → Nat), sumTo gs.size q ≤ M → AtRel w w₀ → gs[0]? = some a → Frm0 P t gs q →
      ∃ (N : Nat) (gs' : Array Goroutine) (a' : Goroutine) (w' : World) (sl' : Option (Nat × Nat)) (t' : Trace) (q' : Nat → Nat),
        runNT P N (crowd gs w₀ sl) t = (.next (crowd gs' w' sl'), t') ∧ gs'.size = gs.size ∧ gs'[0]? = some a' ∧ Stop a' w' ∧ Frm0 P t' gs' q' := by
      intro M
      induction M with
      | zero =>
        intro w₀ gs sl t q hM hr h0 F
        obtain ⟨i, g, d, sl', hi, hg, hst⟩ := crowd_pick (P := P) (w := w₀) (sl := sl) (F.awake h0 hs) ⟨0, a, h0, hs⟩
        by_cases h : i = 0
        · subst h
          obtain rfl : g = a := by rw [h0] at hi; exact (Option.some.inj hi).symm
          obtain ⟨a', w', es, hstep, he⟩ := hgo _ (atRel_trans _ _ _ hr ⟨d, rfl⟩)
          obtain ⟨h0', hsz, F'⟩ := F.step (a' := a') (w' := w') h0 he
          obtain ⟨N, gs', a'', w'', sl'', t', q', hrun, hsz', hz, hS, F''⟩ := ih _ a' w' es (atRel_trans _ _ _ hr ⟨d, rfl⟩) hstep w' _ sl' _ q (atRel_refl _) h0' F'
          exact ⟨N + 1, gs', a'', w'', sl'', t', q', by simp only [runNT, hst, runT_crowd_go (P := P) (sl := sl') (i := 0) hi hstep]; exact hrun, hsz'.trans hsz, hz, hS, F''⟩
        · obtain ⟨gs', ops, q', _, _, _, _, hlt, _⟩ := F.slip (w := w₀.at d) (sl := sl') hi h hg (fun x gx hx hgx => by
            obtain rfl : x = 0 := hx
            rw [h0] at hgx
            obtain rfl := Option.some.inj hgx
            exact again_running _ (.inl hs))
          omega
      | succ M ihM =>
        intro w₀ gs sl t q hM hr h0 F
        obtain ⟨i, g, d, sl', hi, hg, hst⟩ := crowd_pick (P := P) (w := w₀) (sl := sl) (F.awake h0 hs) ⟨0, a, h0, hs⟩
        by_cases h : i = 0
        · subst h
          obtain rfl : g = a := by rw [h0] at hi; exact (Option.some.inj hi).symm
          obtain ⟨a', w', es, hstep, he⟩ := hgo _ (atRel_trans _ _ _ hr ⟨d, rfl⟩)
          obtain ⟨h0', hsz, F'⟩ := F.step (a' := a') (w' := w') h0 he
          obtain ⟨N, gs', a'', w'', sl'', t', q', hrun, hsz', hz, hS, F''⟩ := ih _ a' w' es (atRel_trans _ _ _ hr ⟨d, rfl⟩) hstep w' _ sl' _ q (atRel_refl _) h0' F'
          exact ⟨N + 1, gs', a'', w'', sl'', t', q', by simp only [runNT, hst, runT_crowd_go (P := P) (sl := sl') (i := 0) hi hstep]; exact hrun, hsz'.trans hsz, hz, hS, F''⟩
        · obtain ⟨gs₁, ops, q₁, hrunT, hsz₁, hsp₁, F₁, hlt, _⟩ := F.slip (w := w₀.at d) (sl := sl') hi h hg (fun x gx hx hgx => by
            obtain rfl : x = 0 := hx
            rw [h0] at hgx
            obtain rfl := Option.some.inj hgx
            exact again_running _ (.inl hs))
          obtain ⟨N, gs', a'', w'', sl'', t', q', hrun, hsz', hz, hS, F''⟩ := ihM (w₀.at d) gs₁ sl' (t ++ ops) q₁ (by omega) (atRel_trans _ _ _ hr ⟨d, rfl⟩) (by rw [hsp₁ 0 rfl]; exact h0) F₁
          exact ⟨N + 1, gs', a'', w'', sl'', t', q', by simp only [runNT, hst, hrunT]; exact hrun, hsz'.trans hsz₁, hz, hS, F''⟩
    exact fun w₀ gs sl t q => inner _ w₀ gs sl t q (Nat.le_refl _)
/-- THE END: goroutine 0's bottom frame stands at its return. -/
theorem endsW {R : Value → World → Prop} (hB : ∀ v w d, R v w → R v (w.at d)) {a : Goroutine} {w : World} (sl : Option (Nat × Nat)) (h0 : gs[0]? = some a) (F : Frm0 P t gs q) {f : FuncId} (hA : AtLeave P f R [] a w) (hi : P.inits.idxOf? f = none) :
    ∃ N last o w' t', runNT P (N + 1) (crowd gs w sl) t = (.ended o w', t') ∧ runN P N (crowd gs w sl) = .next last ∧ step P last = .ended o w' ∧ Good P R last o w' t' := by
  obtain ⟨fr, v, rfl, hl, rfl, hR⟩ := hA
  have hin := hi
  obtain ⟨B, hP⟩ := F.past
  have hP := hP.toPast rfl (fun _ h => h)
  obtain ⟨h1, h2, h3, fn, hfn, hr⟩ := hl
  -- what the return lists, the same at every count of draws
  have hs := still_results fn fr.tmps
  have key : ∀ d, stepG P true (G fr []) (w.at d) = .ended (.done v) (w.at d) (seen P fr.fn ((results fn fr.tmps).runT P w #[]).2 ++ #[]) := by
    intro d
    obtain ⟨_, _, h4⟩ := runT_on P (results fn fr.tmps) hs w #[]
    have e : ((results fn fr.tmps).runT P w #[]).1 = .ok v w := by rw [← hr]; exact Sem.runT_fst ..
    have h5 := h4 w.tape d (by rw [e]; intro i hi; simp [Result.world] at hi)
    rw [e] at h5
    rw [stepG_unwind (by rw [h1]; simp)]
    unfold unwind
    simp only [h2, h1, hfn]
    have e2 : (results fn fr.tmps).runT P (w.at d) #[] = (.ok v (w.at d), ((results fn fr.tmps).runT P w #[]).2) := by
      have : (w.at d) = w.on w.tape d := rfl
      rw [this, h5]
      simp [Result.on, Result.world]
    rw [e2]
    simp only [doReturn, h3, hin]
    rfl
  have hev : Ev (seen P fr.fn ((results fn fr.tmps).runT P w #[]).2 ++ #[]) := (ev_seen (runT_ev P _ hs w #[] ev_nil)).app ev_nil
  obtain ⟨B', hB'⟩ := low_some (MemOp.ofEvents 0 fr.fn fr.place (seen P fr.fn ((results fn fr.tmps).runT P w #[]).2 ++ #[]))
  have hlow : ∀ e ∈ (seen P fr.fn ((results fn fr.tmps).runT P w #[]).2 ++ #[]), (MemAct.ofEvent e).low B' := by
    intro e he
    refine hB' { g := 0, fn := fr.fn, pos := fr.place, act := .ofEvent e } ?_
    rw [ofEvents_eq]
    exact Array.mem_map.2 ⟨e, he, rfl⟩
  refine beside_ends (P := P) (Shun := fun _ => False) (B := max B B') (D := fun _ _ es => ∀ e ∈ es, EvL (fun _ => False) (max B B') e) (Post := R) (fun _ _ _ h => h) (n := 0) h0 ⟨fun i g hpos hg => (F.old i g (fun e => by rw [show i = 0 from e] at hpos; omega) hg).2, F.above⟩ (hP.mono (Nat.le_max_left _ _)) ?_
  rintro _ ⟨d, rfl⟩
  refine ⟨rfl, v, _, key d, fun e he => ⟨fun _ _ h => h.elim, fun h => (hev e he _ h).ne_disable rfl, fun h => (hev e he _ h).ne_enable rfl, MemAct.low_mono (Nat.le_max_right _ _) (hlow e he)⟩, hB v w d hR⟩
end
end Go.Proofs.Ytaeaacdjiijooaa.Lift
