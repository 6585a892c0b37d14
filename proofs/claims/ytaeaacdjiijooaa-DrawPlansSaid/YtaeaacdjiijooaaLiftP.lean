import Derived.Test.YtaeaacdjiijooaaLiftF
namespace Go.Proofs.Ytaeaacdjiijooaa.Lift
open Go Go.Conc
open Go.ConcN (sumTo upd sumTo_upd upd_ne upd_same)
set_option linter.unusedVariables false
/-! ### a sender and a receiver beside leavers -/
theorem runs_untilW {P : Program} {α : Type} {r : α → α → Prop} (wf : WellFounded r) {Inv : α → Machine → Trace → Prop} {Done : Machine → Trace → Prop}
    (step : ∀ μ m t, Inv μ m t → Done m t ∨ ∃ m' ops μ', stepT P m = (.next m', ops) ∧ r μ' μ ∧ Inv μ' m' (t ++ ops)) :
    ∀ μ m t, Inv μ m t → ∃ N m' t', runNT P N m t = (.next m', t') ∧ Done m' t' := by
  intro μ
  induction μ using wf.induction with
  | _ μ ih =>
    intro m t h
    rcases step μ m t h with hd | ⟨m', ops, μ', hs, hlt, hI⟩
    · exact ⟨0, m, t, rfl, hd⟩
    · obtain ⟨N, m'', t'', hr, hd⟩ := ih μ' hlt m' (t ++ ops) hI
      exact ⟨N + 1, m'', t'', by simp only [runNT, hs]; exact hr, hd⟩
/-! The sender's script; it may draw from the tape. -/
section
variable (P : Program) (c : Nat) (S : World → Prop) (Mine : Loc → Prop)
def DBr (w w' : World) (es : Array Event) : Prop := AtRel w w' ∧ ∀ e ∈ es, EvB Mine e
def SendsR : List Value → Goroutine → Prop
  | [], g => ∃ n, Goes P false (fun _ w₁ => S w₁) (DBr Mine) (fun g₁ _ => AtClose P c S Mine g₁) n g default
  | v :: vs, g => ∃ n, Goes P false (fun _ w₁ => S w₁) (DBr Mine) (fun g₁ _ => AtSend P c S Mine v (SendsR vs) g₁) n g default
def StopBR : List Value → Goroutine → World → Prop
  | [] => fun g₁ _ => AtClose P c S Mine g₁
  | v :: vs => fun g₁ _ => AtSend P c S Mine v (SendsR P c S Mine vs) g₁
theorem sendsR_iff (vs : List Value) (g : Goroutine) : SendsR P c S Mine vs g ↔ ∃ n, Goes P false (fun _ w₁ => S w₁) (DBr Mine) (StopBR P c S Mine vs) n g default := by
  cases vs <;> exact Iff.rfl
def SitBR (vs : List Value) (rb : Nat) (b : Goroutine) : Prop :=
  (∃ n, rb = n + 1 ∧ Goes P false (fun _ w₁ => S w₁) (DBr Mine) (StopBR P c S Mine vs) n b default) ∨
  (rb = 0 ∧ ∃ v vs' g₂ z', vs = v :: vs' ∧ b = parked g₂ #[scase c v z'] .send ∧ SendsR P c S Mine vs' (Go.Conc.served g₂ undef))
end
theorem StopBR.running {P : Program} {c : Nat} {S : World → Prop} {Mine : Loc → Prop} {vs : List Value} {g : Goroutine} {w : World} (h : StopBR P c S Mine vs g w) : g.status = .running := by cases vs <;> exact h.1
theorem SitBR.status {P : Program} {c : Nat} {S : World → Prop} {Mine : Loc → Prop} {vs : List Value} {rb : Nat} {b : Goroutine} {w : World} (hS : S w) (h : SitBR P c S Mine vs rb b) : (b.status = .running ∧ 0 < rb) ∨ (b.status = .blocked ∧ rb = 0) := by
  rcases h with ⟨n, e, hg⟩ | ⟨e, v, vs', g, z', _, rfl, _⟩
  · exact .inl ⟨hg.running (fun _ _ => StopBR.running) w hS, by omega⟩
  · exact .inr ⟨rfl, e⟩
/-- What the two share, and the sender alone reads. -/
def Own (Still : Loc → Prop) : Loc → Prop := fun l => ¬ Still l
def AtOr (k : Nat) : Nat → Prop := fun i => i = 0 ∨ i = k
section
variable {Still : Loc → Prop}
theorem evA_ops {es : Array Event} (h : ∀ e ∈ es, EvA (Own Still) e) (fn : FuncId) (pos : String) :
    (∀ op ∈ MemOp.ofEvents 0 fn pos es, op.g = 0) ∧ (∀ op ∈ MemOp.ofEvents 0 fn pos es, ∀ b, op.act.touch? = some b → Still b.loc → b.write = false) ∧ ∀ op ∈ MemOp.ofEvents 0 fn pos es, ∀ g d, deafStep g d op = d := by
  obtain ⟨h1, h2⟩ := ev_ops0 (fun e he => (h e he).1) 0 fn pos
  refine ⟨h1, fun op hop b hb hS => ?_, h2⟩
  obtain ⟨e, he, rfl⟩ := Go.Conc.mem_ofEvents hop
  obtain ⟨e1, e2⟩ := ofEvent_touch (h e he).1 hb
  cases hw : b.write with
  | false => rfl
  | true => exact absurd (e1 ▸ hS) ((h e he).2 (e2 ▸ hw))
theorem evB_ops {es : Array Event} (h : ∀ e ∈ es, EvB (Own Still) e) (g : Nat) (fn : FuncId) (pos : String) :
    (∀ op ∈ MemOp.ofEvents g fn pos es, op.g = g) ∧ (∀ op ∈ MemOp.ofEvents g fn pos es, ∀ b, op.act.touch? = some b → b.write = false ∧ Still b.loc) ∧ ∀ op ∈ MemOp.ofEvents g fn pos es, ∀ g d, deafStep g d op = d := by
  obtain ⟨h1, h2⟩ := ev_ops0 (fun e he => (h e he).1) g fn pos
  refine ⟨h1, fun op hop b hb => ?_, h2⟩
  obtain ⟨e, he, rfl⟩ := Go.Conc.mem_ofEvents hop
  obtain ⟨e1, e2⟩ := ofEvent_touch (h e he).1 hb
  exact ⟨by rw [e2]; exact (h e he).2.1, by rw [e1]; exact Classical.not_not.1 (h e he).2.2⟩
end
theorem met_quiet4 (u : Trace) (h : ∀ op ∈ u, op.act.touch? = none ∧ ∀ m, op.act ≠ .mark m) : (∀ op ∈ u, op.act.touch? = none) ∧ ∀ g, ∀ op ∈ u, ∀ d, deafStep g d op = d :=
  ⟨fun op hop => (h op hop).1, fun g op hop d => deafStep_still ((h op hop).2 _) ((h op hop).2 _) d⟩
/-- Goroutine k has closed channel c, and has touched nothing since. -/
def ClosedBy (c k : Nat) (t : Trace) : Prop := ∃ pc opc, t[pc]? = some opc ∧ opc.g = k ∧ opc.act = .close c ∧ t.heard pc ∧ ∀ i op, t[i]? = some op → op.g = k → op.act.touch? ≠ none → i < pc
theorem ClosedBy.app {c k : Nat} {t u : Trace} (h : ClosedBy c k t) (hu : ∀ op ∈ u, op.g = k → op.act.touch? = none) : ClosedBy c k (t ++ u) := by
  obtain ⟨pc, opc, h1, h2, h3, h4, h5⟩ := h
  have hlt := lt_size_of_getElem? h1
  refine ⟨pc, opc, by rw [getElem?_append_old hlt]; exact h1, h2, h3, (heard_old hlt).2 h4, fun i op hi hg ht => ?_⟩
  rcases getElem?_append_cases hi with ⟨_, hi'⟩ | ⟨_, hm⟩
  · exact h5 i op hi' hg ht
  · exact absurd (hu op hm hg) ht
section
variable {P : Program} {c : Nat} {S : World → Prop} {Still : Loc → Prop} {z : Value} {Fin : Goroutine → World → Prop} {k : Nat}
variable (P c S Still z Fin k) in
inductive PInv : Nat × Nat → Machine → Trace → Prop
  | opn (vs : List Value) (a b : Goroutine) (w : World) (sl : Option (Nat × Nat)) (t : Trace) (gs : Array Goroutine) (q : Nat → Nat) (s r : Nat) (tm : Bool) (ra rb : Nat)
      (h0 : gs[0]? = some a) (hk : gs[k]? = some b) (hS : S w) (hc : w.heap[c]? = some (.chan 0 #[] false s r tm)) (hA : SitA P c S (Own Still) z Fin vs ra a w) (hB : SitBR P c S (Own Still) vs rb b) (hpos : 0 < ra + rb)
      (F : Frm P (AtOr k) Still (AtOr k) (fun i => i = k) t gs q) : PInv (vs.length + 2, ra + rb + sumTo gs.size q) (crowd gs w sl) t
  | shut (a : Goroutine) (w : World) (sl : Option (Nat × Nat)) (t : Trace) (gs : Array Goroutine) (q : Nat → Nat) (s r : Nat) (tm : Bool) (n : Nat)
      (h0 : gs[0]? = some a) (hc : w.heap[c]? = some (.chan 0 #[] true s r tm)) (hA : Goes P true (Aside c) (DA c S (Own Still)) (StopA P c S (Own Still) z Fin []) n a w)
      (F : Frm P At0 Still At0 (fun i => i = k) t gs q) (hC : ClosedBy c k t) : PInv (1, n + sumTo gs.size q) (crowd gs w sl) t
  | fin (a : Goroutine) (w : World) (sl : Option (Nat × Nat)) (t : Trace) (gs : Array Goroutine) (q : Nat → Nat)
      (h0 : gs[0]? = some a) (hF : Fin a w) (F : Frm0 P t gs q) : PInv (0, 0) (crowd gs w sl) t
variable (P Fin) in
def PDone (n : Nat) (m : Machine) (t : Trace) : Prop := ∃ gs a w sl q, m = crowd gs w sl ∧ gs.size = n ∧ gs[0]? = some a ∧ Fin a w ∧ Frm0 P t gs q
theorem atOr_awake {a b : Goroutine} {t : Trace} {gs : Array Goroutine} {q : Nat → Nat} {Mem Loose : Nat → Prop} {w : World} (h0 : gs[0]? = some a) (hk : gs[k]? = some b) (ha : a.status = .running ∨ a.status = .blocked) (hb : b.status = .running ∨ b.status = .blocked)
    (F : Frm P (AtOr k) Still Mem Loose t gs q) : ∀ g ∈ gs, awake g := by
  intro g hg
  obtain ⟨i, hi, rfl⟩ := Array.mem_iff_getElem.1 hg
  by_cases h : i = 0
  · subst h
    have : gs[0] = a := by simpa [Array.getElem?_eq_getElem hi] using h0
    rw [this]; exact awake_of (ha.elim .inl fun h => .inr (.inl h))
  · by_cases h' : i = k
    · subst h'
      have : gs[i] = b := by simpa [Array.getElem?_eq_getElem hi] using hk
      rw [this]; exact awake_of (hb.elim .inl fun h => .inr (.inl h))
    · exact awake_of ((F.old i _ (fun e => e.elim h h') (Array.getElem?_eq_getElem hi)).2.status.elim .inl fun x => .inr (.inr x))
/-- What the others offer at a channel: nothing. -/
theorem others_none {t : Trace} {gs : Array Goroutine} {q : Nat → Nat} {Mem Loose : Nat → Prop} (F : Frm P (AtOr k) Still Mem Loose t gs q) {x : Nat} {y : Goroutine} (h0 : x ≠ 0) (hk : x ≠ k) (hy : gs[x]? = some y) (c : Nat) (b : Bool) : offersAt y c b = [] :=
  offersAt_of_not_blocked (fun h => by rcases (F.old x y (fun e => e.elim h0 hk) hy).2.status with e | e <;> rw [e] at h <;> cases h) c b
theorem step_opnC (hk0 : k ≠ 0) (hSt : ∀ w w₁, Aside c w w₁ → S w → S w₁) {vs : List Value} {a b : Goroutine} {w : World} {sl : Option (Nat × Nat)} {t : Trace} {gs : Array Goroutine} {q : Nat → Nat} {s r : Nat} {tm : Bool} {ra rb : Nat}
    (h0 : gs[0]? = some a) (hk : gs[k]? = some b) (hS : S w) (hc : w.heap[c]? = some (.chan 0 #[] false s r tm)) (hA : SitA P c S (Own Still) z Fin vs ra a w) (hB : SitBR P c S (Own Still) vs rb b) (hpos : 0 < ra + rb)
    (F : Frm P (AtOr k) Still (AtOr k) (fun i => i = k) t gs q) :
    ∃ gs' w' sl' ops μ', stepT P (crowd gs w sl) = (.next (crowd gs' w' sl'), ops) ∧ gs'.size = gs.size ∧ Lt2 μ' (vs.length + 2, ra + rb + sumTo gs.size q) ∧ PInv P c S Still z Fin k μ' (crowd gs' w' sl') (t ++ ops) := by
  have sA := hA.status
  have sB := hB.status hS
  have hsa : a.status = .running ∨ a.status = .blocked := sA.imp And.left And.left
  have hsb : b.status = .running ∨ b.status = .blocked := sB.imp And.left And.left
  have some1 : ∃ (i : Nat) (g : Goroutine), gs[i]? = some g ∧ g.status = .running := by
    rcases sA with ⟨h, _⟩ | ⟨_, e0⟩
    · exact ⟨0, a, h0, h⟩
    · rcases sB with ⟨h, _⟩ | ⟨_, e1⟩
      · exact ⟨k, b, hk, h⟩
      · omega
  have hlt0 : 0 < gs.size := (Array.getElem?_eq_some_iff.1 h0).1
  have hltk : k < gs.size := (Array.getElem?_eq_some_iff.1 hk).1
  obtain ⟨i, g, d, sl', hi, hg, hst⟩ := crowd_pick (P := P) (w := w) (sl := sl) (atOr_awake (w := w) h0 hk hsa hsb F) some1
  have hAs : Aside c w (w.at d) := Aside.at c w d
  have hS1 : S (w.at d) := hSt _ _ hAs hS
  have hc1 : (w.at d).heap[c]? = some (.chan 0 #[] false s r tm) := hc
  have hw2 : Aside c (w.at d) ((w.at d).passed c s r tm) := Aside.put c _ _
  have again_b : ∀ w' : World, w'.heap[c]? = some (.chan 0 #[] false s r tm) → b.again w' = b := fun w' hc' => by
    rcases hB with ⟨n, e, hg⟩ | ⟨e, v, vs', g₂, z', _, rfl, _⟩
    · exact again_running _ (.inl (hg.running (fun _ _ => StopBR.running) w hS))
    · exact again_parked_open rfl hc'
  have again_a : ∀ w' : World, w'.heap[c]? = some (.chan 0 #[] false s r tm) → a.again w' = a := fun w' hc' => by
    rcases hA with ⟨n, e, hg⟩ | ⟨e, g, rfl, _⟩
    · exact again_running _ (.inl (hg.running (fun _ _ => StopA.running) w (Aside.refl c w)))
    · exact again_parked_open rfl hc'
  by_cases hi0 : i = 0
  · -- THE RECEIVER MOVES
    subst hi0
    obtain rfl : g = a := by rw [h0] at hi; exact (Option.some.inj hi).symm
    rcases hA with ⟨n, rfl, hgo⟩ | ⟨_, g', rfl, _⟩
    · rcases hgo.cases with hstop | ⟨n', rfl, hstep⟩
      · have hat := hstop _ hAs
        obtain ⟨es, hcomm, hes⟩ := hat.comm
        obtain ⟨ho, hr, hd⟩ := evA_ops hes g.frame.fn g.frame.place
        rcases hB with ⟨kb, rfl, hgb⟩ | ⟨rfl, v, vs', g₂, z', rfl, rfl, hnext⟩
        · -- the sender is on its way: the receiver waits
          have hbs : b.status ≠ .blocked := by rw [hgb.running (fun _ _ => StopBR.running) w hS]; simp
          have hp : partners (gs.setIfInBounds 0 ph) c true = [] := partners_nil fun x y hy => by
            rcases getElem?_stand gs 0 x y hy with ⟨_, rfl⟩ | ⟨hx, hy'⟩
            · exact offersAt_ph _ _
            · by_cases hxk : x = k
              · subst hxk
                rw [hk] at hy'
                obtain rfl := Option.some.inj hy'
                exact offersAt_of_not_blocked hbs _ _
              · exact others_none F hx hxk hy' _ _
          refine ⟨_, _, _, _, (vs.length + 2, 0 + (kb + 1) + sumTo gs.size q), hst.trans (crowd_waits hi hcomm fun cc hcc => ?_), by simp, .right _ (by omega), ?_⟩
          · have : cc = rcase c z := by simpa using hcc
            rw [this]
            exact ways_recv_none hc1 hp
          · have := PInv.opn (P := P) (c := c) (S := S) (Still := Still) (z := z) (Fin := Fin) (k := k) vs (parked (core g) #[rcase c z] (.recv true)) b (w.at d) sl' (t ++ MemOp.ofEvents 0 g.frame.fn g.frame.place es) (gs.setIfInBounds 0 (parked (core g) #[rcase c z] (.recv true))) q s r tm 0 (kb + 1)
              (Array.getElem?_setIfInBounds_self_of_lt hlt0) (by rw [Array.getElem?_setIfInBounds_ne (fun e => hk0 e.symm)]; exact hk) hS1 hc1 (.inr ⟨rfl, g, rfl, fun w₁ h₁ => hstop w₁ (hAs.trans h₁)⟩) (.inl ⟨kb, rfl, hgb⟩) (by omega)
              (F.turn (by simp) (fun x hx => Array.getElem?_setIfInBounds_ne (fun e => hx (.inl e.symm))) (fun op hop => ⟨.inl (ho op hop), by rw [ho op hop]; exact hlt0⟩) (F.past.app0 (.inl rfl) ho hr (fun op hop d => hd op hop 0 d)) F.mem)
            rw [show (gs.setIfInBounds 0 (parked (core g) #[rcase c z] (.recv true))).size = gs.size by simp] at this
            exact this
        · -- the sender waits: both are served in this one step
          obtain ⟨na, hna⟩ := (recvs_iff P c S (Own Still) z _ vs' _ _).1 (hat.cons _ hw2)
          obtain ⟨nb, hnb⟩ := (sendsR_iff P c S (Own Still) vs' _).1 hnext
          have hp : partners (gs.setIfInBounds 0 ph) c true = [(k, 0)] := by
            rw [partners_one (j := k) (g := parked g₂ #[scase c v z'] .send) (by rw [Array.getElem?_setIfInBounds_ne (fun e => hk0 e.symm)]; exact hk) fun x y hx hy => ?_]
            · rw [offersAt_parked_send, if_pos rfl]; rfl
            · rcases getElem?_stand gs 0 x y hy with ⟨_, rfl⟩ | ⟨hx0, hy'⟩
              · exact offersAt_ph _ _
              · exact others_none F hx0 hx hy' _ _
          have hm := crowd_recv_meets (P := P) (sl := sl') hi hcomm hc1 hk0 hk hp
          obtain ⟨hmn, hmq⟩ := met_quiet4 #[{ g := k, fn := g₂.frame.fn, pos := g₂.frame.place, act := .send c s }, { g := 0, fn := (core g).frame.fn, pos := (core g).frame.place, act := .recv c r 0 },
            { g := k, fn := g₂.frame.fn, pos := g₂.frame.place, act := .sendDone c s }, { g := 0, fn := (core g).frame.fn, pos := (core g).frame.place, act := .recvDone c r }] (by
              intro op hop
              simp only [List.mem_toArray, List.mem_cons, List.not_mem_nil, or_false] at hop
              rcases hop with rfl | rfl | rfl | rfl <;> exact ⟨rfl, fun m h => by cases h⟩)
          refine ⟨_, _, _, _, (vs'.length + 2, (na + 1) + (nb + 1) + sumTo gs.size q), hst.trans hm, by simp, .left _ _ (by simp), ?_⟩
          rw [← Array.append_assoc]
          have F1 := F.turn (gs' := gs) (u := MemOp.ofEvents 0 g.frame.fn g.frame.place es) rfl (fun _ _ => rfl) (fun op hop => ⟨.inl (ho op hop), by rw [ho op hop]; exact hlt0⟩) (F.past.app0 (.inl rfl) ho hr (fun op hop d => hd op hop 0 d)) F.mem
          have F2 := F1.turn (gs' := (gs.setIfInBounds k (Go.Conc.served g₂ undef)).setIfInBounds 0 (Go.Conc.served (core g) (.tuple #[v, .bool true]))) (by simp) (fun x hx => by
            rw [Array.getElem?_setIfInBounds_ne (fun e => hx (.inl e.symm)), Array.getElem?_setIfInBounds_ne (fun e => hx (.inr e.symm))]) (u := #[{ g := k, fn := g₂.frame.fn, pos := g₂.frame.place, act := .send c s }, { g := 0, fn := (core g).frame.fn, pos := (core g).frame.place, act := .recv c r 0 },
            { g := k, fn := g₂.frame.fn, pos := g₂.frame.place, act := .sendDone c s }, { g := 0, fn := (core g).frame.fn, pos := (core g).frame.place, act := .recvDone c r }]) (by
              intro op hop
              simp only [List.mem_toArray, List.mem_cons, List.not_mem_nil, or_false] at hop
              rcases hop with rfl | rfl | rfl | rfl
              · exact ⟨.inr rfl, hltk⟩
              · exact ⟨.inl rfl, hlt0⟩
              · exact ⟨.inr rfl, hltk⟩
              · exact ⟨.inl rfl, hlt0⟩) (F1.past.mute hmn (fun g _ => hmq g)) F1.mem
          have := PInv.opn (P := P) (c := c) (S := S) (Still := Still) (z := z) (Fin := Fin) (k := k) vs' (Go.Conc.served (core g) (.tuple #[v, .bool true])) (Go.Conc.served g₂ undef) ((w.at d).passed c s r tm) sl' _ _ q (s + 1) (r + 1) tm (na + 1) (nb + 1)
            (Array.getElem?_setIfInBounds_self_of_lt (by simpa using hlt0)) (by rw [Array.getElem?_setIfInBounds_ne (fun e => hk0 e.symm), Array.getElem?_setIfInBounds_self_of_lt hltk]) (hSt _ _ hw2 hS1) (heap_put hc1) (.inl ⟨na, rfl, hna⟩) (.inl ⟨nb, rfl, hnb⟩) (by omega) F2
          rw [show ((gs.setIfInBounds k (Go.Conc.served g₂ undef)).setIfInBounds 0 (Go.Conc.served (core g) (.tuple #[v, .bool true]))).size = gs.size by simp] at this
          exact this
      · -- a step of its own
        obtain ⟨a', w', es, hgo', ⟨hSS, hcc, hes⟩, hg'⟩ := hstep _ hAs
        obtain ⟨ho, hr, hd⟩ := evA_ops hes g.frame.fn g.frame.place
        have hc' : w'.heap[c]? = some (.chan 0 #[] false s r tm) := hcc.trans hc1
        have hfix := map_woken (P := P) (gs := gs) (g := g) (g' := a') (w' := w') (i := 0) (fun x y hx hy => by
          by_cases hxk : x = k
          · subst hxk
            rw [hk] at hy
            obtain rfl := Option.some.inj hy
            exact again_b w' hc'
          · exact F.again (fun e => e.elim hx hxk) hy w') a'
        refine ⟨_, _, _, _, (vs.length + 2, (n' + 1) + rb + sumTo gs.size q), hst.trans (runT_crowd_go hi hgo'), by simp, .right _ (by omega), ?_⟩
        have := PInv.opn (P := P) (c := c) (S := S) (Still := Still) (z := z) (Fin := Fin) (k := k) vs a' b w' sl' (t ++ MemOp.ofEvents 0 g.frame.fn g.frame.place es) ((gs.map (woken P g a' w')).setIfInBounds 0 a') q s r tm (n' + 1) rb
          (Array.getElem?_setIfInBounds_self_of_lt (by simpa using hlt0)) (by rw [hfix k hk0]; exact hk) (hSS hS1) hc' (.inl ⟨n', rfl, hg'⟩) hB (by omega)
          (F.turn (by simp) (fun x hx => hfix x (fun e => hx (.inl e))) (fun op hop => ⟨.inl (ho op hop), by rw [ho op hop]; exact hlt0⟩) (F.past.app0 (.inl rfl) ho hr (fun op hop d => hd op hop 0 d)) F.mem)
        rw [show ((gs.map (woken P g a' w')).setIfInBounds 0 a').size = gs.size by simp] at this
        exact this
    · simp [parked] at hg
  · by_cases hik : i = k
    · -- THE SENDER MOVES
      subst hik
      have hib : (i == 0) = false := by simpa using hk0
      obtain rfl : g = b := by rw [hk] at hi; exact (Option.some.inj hi).symm
      rcases hB with ⟨kb, rfl, hgb⟩ | ⟨_, v, vs', g₂, z', _, rfl, _⟩
      · rcases hgb.cases with hstop | ⟨k', rfl, hstep⟩
        · have hat := hstop _ hS1
          cases vs with
          | nil =>
            -- it closes the channel
            obtain ⟨_, hwake, g₂, es, nq, hclose, hes, hq⟩ := hat
            have hgo := hclose _ s r tm hS1 hc1
            obtain ⟨ho, hr, hd⟩ := evB_ops hes i g.frame.fn g.frame.place
            have hw3 : Aside c (w.at d) ((w.at d).shut c s r tm) := Aside.put c _ _
            have hc2 : ((w.at d).shut c s r tm).heap[c]? = some (.chan 0 #[] true s r tm) := heap_put hc1
            have hwk : ∀ o, woken P g g₂ ((w.at d).shut c s r tm) o = o.again ((w.at d).shut c s r tm) := by
              intro o; unfold Go.Conc.woken; rcases hq.status with h | h <;> simp [hwake, h]
            have hA' : ∃ n, Goes P true (Aside c) (DA c S (Own Still)) (StopA P c S (Own Still) z Fin []) n (a.again ((w.at d).shut c s r tm)) ((w.at d).shut c s r tm) := by
              rcases hA with ⟨n, _, hg⟩ | ⟨_, g, rfl, hs⟩
              · rw [again_running _ (.inl (hg.running (fun _ _ => StopA.running) w (Aside.refl c w)))]
                exact ⟨n, Goes.rely (R := Aside c) (fun _ _ _ h h' => Aside.trans h h') hg (hAs.trans hw3)⟩
              · rw [again_parked_shut rfl hc2]
                exact ⟨0, fun w₁ h₁ => (hs w₁ ((hAs.trans hw3).trans h₁)).again⟩
            obtain ⟨na, hna⟩ := hA'
            have hget : ∀ x, x ≠ i → ((gs.map (woken P g g₂ ((w.at d).shut c s r tm))).setIfInBounds i g₂)[x]? = (gs[x]?).map fun o => o.again ((w.at d).shut c s r tm) := fun x hx => by
              rw [Array.getElem?_setIfInBounds_ne (fun e => hx e.symm), Array.getElem?_map]
              cases gs[x]? with
              | none => rfl
              | some y => simp [hwk]
            have hops : MemOp.ofEvents i g.frame.fn g.frame.place (es.push ⟨.obj c, true, true⟩) = MemOp.ofEvents i g.frame.fn g.frame.place es ++ #[{ g := i, fn := g.frame.fn, pos := g.frame.place, act := .close c }] := by
              rw [ofEvents_push]; rfl
            obtain ⟨hmn, hmq⟩ := met_quiet4 #[{ g := i, fn := g.frame.fn, pos := g.frame.place, act := .close c }] (by
              intro op hop
              simp only [List.mem_toArray, List.mem_cons, List.not_mem_nil, or_false] at hop
              subst hop; exact ⟨rfl, fun m h => by cases h⟩)
            have hPast1 := F.past.read (.inr rfl) rfl ho hr (fun op hop d => hd op hop i d)
            have hPast2 := hPast1.mute hmn (fun g _ => hmq g)
            have hdeaf : Deaf (t ++ MemOp.ofEvents i g.frame.fn g.frame.place es) i = 0 := hPast1.elim fun B H => H.hears i (.inr rfl)
            have hdeaf2 : Deaf (t ++ MemOp.ofEvents i g.frame.fn g.frame.place es ++ #[{ g := i, fn := g.frame.fn, pos := g.frame.place, act := .close c }]) i = 0 := hPast2.elim fun B H => H.hears i (.inr rfl)
            have hlast : (t ++ MemOp.ofEvents i g.frame.fn g.frame.place es ++ #[{ g := i, fn := g.frame.fn, pos := g.frame.place, act := .close c }])[(t ++ MemOp.ofEvents i g.frame.fn g.frame.place es).size]? = some { g := i, fn := g.frame.fn, pos := g.frame.place, act := .close c } := by
              rw [Array.getElem?_append_right (Nat.le_refl _)]; simp
            refine ⟨_, _, _, _, (1, na + sumTo gs.size (upd q i nq)), hst.trans (runT_crowd_go hi (by rw [hib]; exact hgo)), by simp, .left _ _ (by simp), ?_⟩
            rw [hops, ← Array.append_assoc]
            have F2 : Frm P At0 Still At0 (fun x => x = i) (t ++ MemOp.ofEvents i g.frame.fn g.frame.place es ++ #[{ g := i, fn := g.frame.fn, pos := g.frame.place, act := .close c }]) ((gs.map (woken P g g₂ ((w.at d).shut c s r tm))).setIfInBounds i g₂) (upd q i nq) := by
              refine ⟨fun x y hx hy => ?_, fun j hj => ?_, ?_, fun _ h => h⟩
              · by_cases hxi : x = i
                · subst hxi
                  rw [Array.getElem?_setIfInBounds_self_of_lt (by simpa using hltk)] at hy
                  obtain rfl := Option.some.inj hy
                  rw [upd_same, hdeaf2]
                  exact ⟨Nat.pos_of_ne_zero hk0, QuitsD.of_quitsIn hq⟩
                · rw [hget x hxi] at hy
                  obtain ⟨y', hy', rfl⟩ := Option.map_eq_some_iff.1 hy
                  have hsp : ¬ AtOr i x := fun e => e.elim hx hxi
                  rw [F.again hsp hy', upd_ne q nq hxi]
                  obtain ⟨hp, hqq⟩ := F.old x y' hsp hy'
                  refine ⟨hp, ?_⟩
                  rw [Array.append_assoc, Deaf_quiet fun op hop d => ?_]
                  · exact hqq
                  · rcases Array.mem_append.1 hop with h | h
                    · exact hd op h x d
                    · exact hmq x op h d
              · rw [Array.append_assoc, Deaf_quiet fun op hop d => ?_]
                · exact F.above j (by simpa using hj)
                · rcases Array.mem_append.1 hop with h | h
                  · exact hd op h j d
                  · exact hmq j op h d
              · obtain ⟨B, H⟩ := hPast2
                exact ⟨B, PastG.fewer H (fun g hg => .inl hg)⟩
            have := PInv.shut (P := P) (c := c) (S := S) (Still := Still) (z := z) (Fin := Fin) (k := i) (a.again ((w.at d).shut c s r tm)) ((w.at d).shut c s r tm) sl' _ _ (upd q i nq) s r tm na (by rw [hget 0 (fun e => hk0 e.symm), h0]; rfl) hc2 hna F2
              ⟨_, _, hlast, rfl, rfl, ⟨i, g?_of hlast, by rw [deaf_old (Nat.le_refl _)]; exact hdeaf⟩, fun j op hj hg ht => by
                rcases getElem?_append_cases hj with ⟨h, _⟩ | ⟨_, hm⟩
                · exact h
                · exact absurd (hmn op hm) ht⟩
            rw [show ((gs.map (woken P g g₂ ((w.at d).shut c s r tm))).setIfInBounds i g₂).size = gs.size by simp] at this
            exact this
          | cons v vs' =>
            obtain ⟨_, g₂, z', es, hcomm, hes, hnext⟩ := hat
            have hcm := hcomm _ hS1
            obtain ⟨ho, hr, hd⟩ := evB_ops hes i g.frame.fn g.frame.place
            rcases hA with ⟨n, rfl, hga⟩ | ⟨rfl, g', rfl, hs⟩
            · -- the receiver is on its way: the sender waits
              have has : a.status ≠ .blocked := by rw [hga.running (fun _ _ => StopA.running) w (Aside.refl c w)]; simp
              have hp : partners (gs.setIfInBounds i ph) c false = [] := partners_nil fun x y hy => by
                rcases getElem?_stand gs i x y hy with ⟨_, rfl⟩ | ⟨hx, hy'⟩
                · exact offersAt_ph _ _
                · by_cases hx0 : x = 0
                  · subst hx0
                    rw [h0] at hy'
                    obtain rfl := Option.some.inj hy'
                    exact offersAt_of_not_blocked has _ _
                  · exact others_none F hx0 hx hy' _ _
              refine ⟨_, _, _, _, ((v :: vs').length + 2, (n + 1) + 0 + sumTo gs.size q), hst.trans (crowd_waits hi (by rw [hib]; exact hcm) fun cc hcc => ?_), by simp, .right _ (by omega), ?_⟩
              · have : cc = scase c v z' := by simpa using hcc
                rw [this]
                exact ways_send_none hc1 (by simp) hp
              · have := PInv.opn (P := P) (c := c) (S := S) (Still := Still) (z := z) (Fin := Fin) (k := i) (v :: vs') a (parked g₂ #[scase c v z'] .send) (w.at d) sl' (t ++ MemOp.ofEvents i g.frame.fn g.frame.place es) (gs.setIfInBounds i (parked g₂ #[scase c v z'] .send)) q s r tm (n + 1) 0
                  (by rw [Array.getElem?_setIfInBounds_ne hk0]; exact h0) (Array.getElem?_setIfInBounds_self_of_lt hltk) hS1 hc1 (.inl ⟨n, rfl, Goes.rely (R := Aside c) (fun _ _ _ h h' => Aside.trans h h') hga hAs⟩) (.inr ⟨rfl, v, vs', g₂, z', rfl, rfl, hnext⟩) (by omega)
                  (F.turn (by simp) (fun x hx => Array.getElem?_setIfInBounds_ne (fun e => hx (.inr e.symm))) (fun op hop => ⟨.inr (ho op hop), by rw [ho op hop]; exact hltk⟩) (F.past.read (.inr rfl) rfl ho hr (fun op hop d => hd op hop i d)) F.mem)
                rw [show (gs.setIfInBounds i (parked g₂ #[scase c v z'] .send)).size = gs.size by simp] at this
                exact this
            · -- the receiver waits: both are served in this one step
              obtain ⟨na, hna⟩ := (recvs_iff P c S (Own Still) z _ vs' _ _).1 ((hs _ hAs).cons _ hw2)
              obtain ⟨nb, hnb⟩ := (sendsR_iff P c S (Own Still) vs' _).1 hnext
              have hp : partners (gs.setIfInBounds i ph) c false = [(0, 0)] := by
                rw [partners_one (j := 0) (g := parked (core g') #[rcase c z] (.recv true)) (by rw [Array.getElem?_setIfInBounds_ne hk0]; exact h0) fun x y hx hy => ?_]
                · rw [offersAt_parked_recv, if_pos rfl]; rfl
                · rcases getElem?_stand gs i x y hy with ⟨_, rfl⟩ | ⟨hxi, hy'⟩
                  · exact offersAt_ph _ _
                  · exact others_none F hx hxi hy' _ _
              have hm := crowd_send_meets (P := P) (sl := sl') hi (by rw [hib]; exact hcm) hc1 (fun e => hk0 e.symm) h0 hp
              obtain ⟨hmn, hmq⟩ := met_quiet4 #[{ g := i, fn := g₂.frame.fn, pos := g₂.frame.place, act := .send c s }, { g := 0, fn := (core g').frame.fn, pos := (core g').frame.place, act := .recv c r 0 },
                { g := i, fn := g₂.frame.fn, pos := g₂.frame.place, act := .sendDone c s }, { g := 0, fn := (core g').frame.fn, pos := (core g').frame.place, act := .recvDone c r }] (by
                  intro op hop
                  simp only [List.mem_toArray, List.mem_cons, List.not_mem_nil, or_false] at hop
                  rcases hop with rfl | rfl | rfl | rfl <;> exact ⟨rfl, fun m h => by cases h⟩)
              refine ⟨_, _, _, _, (vs'.length + 2, (na + 1) + (nb + 1) + sumTo gs.size q), hst.trans hm, by simp, .left _ _ (by simp), ?_⟩
              rw [← Array.append_assoc]
              have F1 := F.turn (gs' := gs) (u := MemOp.ofEvents i g.frame.fn g.frame.place es) rfl (fun _ _ => rfl) (fun op hop => ⟨.inr (ho op hop), by rw [ho op hop]; exact hltk⟩) (F.past.read (.inr rfl) rfl ho hr (fun op hop d => hd op hop i d)) F.mem
              have F2 := F1.turn (gs' := (gs.setIfInBounds 0 (Go.Conc.served (core g') (.tuple #[v, .bool true]))).setIfInBounds i (Go.Conc.served g₂ undef)) (by simp) (fun x hx => by
                rw [Array.getElem?_setIfInBounds_ne (fun e => hx (.inr e.symm)), Array.getElem?_setIfInBounds_ne (fun e => hx (.inl e.symm))]) (u := #[{ g := i, fn := g₂.frame.fn, pos := g₂.frame.place, act := .send c s }, { g := 0, fn := (core g').frame.fn, pos := (core g').frame.place, act := .recv c r 0 },
                { g := i, fn := g₂.frame.fn, pos := g₂.frame.place, act := .sendDone c s }, { g := 0, fn := (core g').frame.fn, pos := (core g').frame.place, act := .recvDone c r }]) (by
                  intro op hop
                  simp only [List.mem_toArray, List.mem_cons, List.not_mem_nil, or_false] at hop
                  rcases hop with rfl | rfl | rfl | rfl
                  · exact ⟨.inr rfl, hltk⟩
                  · exact ⟨.inl rfl, hlt0⟩
                  · exact ⟨.inr rfl, hltk⟩
                  · exact ⟨.inl rfl, hlt0⟩) (F1.past.mute hmn (fun g _ => hmq g)) F1.mem
              have := PInv.opn (P := P) (c := c) (S := S) (Still := Still) (z := z) (Fin := Fin) (k := i) vs' (Go.Conc.served (core g') (.tuple #[v, .bool true])) (Go.Conc.served g₂ undef) ((w.at d).passed c s r tm) sl' _ _ q (s + 1) (r + 1) tm (na + 1) (nb + 1)
                (by rw [Array.getElem?_setIfInBounds_ne hk0, Array.getElem?_setIfInBounds_self_of_lt hlt0]) (Array.getElem?_setIfInBounds_self_of_lt (by simpa using hltk)) (hSt _ _ hw2 hS1) (heap_put hc1) (.inl ⟨na, rfl, hna⟩) (.inl ⟨nb, rfl, hnb⟩) (by omega) F2
              rw [show ((gs.setIfInBounds 0 (Go.Conc.served (core g') (.tuple #[v, .bool true]))).setIfInBounds i (Go.Conc.served g₂ undef)).size = gs.size by simp] at this
              exact this
        · -- a step of its own: the world is handed back
          obtain ⟨b', _, es, hgo, ⟨⟨d', rfl⟩, hes⟩, hg'⟩ := hstep _ hS1
          obtain ⟨ho, hr, hd⟩ := evB_ops hes i g.frame.fn g.frame.place
          have hfix := map_woken (P := P) (gs := gs) (g := g) (g' := b') (w' := (w.at d).at d') (i := i) (fun x y hx hy => by
            by_cases hx0 : x = 0
            · subst hx0
              rw [h0] at hy
              obtain rfl := Option.some.inj hy
              exact again_a _ hc1
            · exact F.again (fun e => e.elim hx0 hx) hy _) b'
          refine ⟨_, _, _, _, (vs.length + 2, ra + (k' + 1) + sumTo gs.size q), hst.trans (runT_crowd_go hi (by rw [hib]; exact hgo)), by simp, .right _ (by omega), ?_⟩
          have := PInv.opn (P := P) (c := c) (S := S) (Still := Still) (z := z) (Fin := Fin) (k := i) vs a b' ((w.at d).at d') sl' (t ++ MemOp.ofEvents i g.frame.fn g.frame.place es) ((gs.map (woken P g b' ((w.at d).at d'))).setIfInBounds i b') q s r tm ra (k' + 1)
            (by rw [hfix 0 (fun e => hk0 e.symm)]; exact h0) (Array.getElem?_setIfInBounds_self_of_lt (by simpa using hltk)) (hSt _ _ (Aside.at c _ d') hS1) hc1 (hA.rely (hAs.trans (Aside.at c _ d'))) (.inl ⟨k', rfl, hg'.anyWorld default⟩) (by omega)
            (F.turn (by simp) (fun x hx => hfix x (fun e => hx (.inr e))) (fun op hop => ⟨.inr (ho op hop), by rw [ho op hop]; exact hltk⟩) (F.past.read (.inr rfl) rfl ho hr (fun op hop d => hd op hop i d)) F.mem)
          rw [show ((gs.map (woken P g b' ((w.at d).at d'))).setIfInBounds i b').size = gs.size by simp] at this
          exact this
      · simp [parked] at hg
    · -- A LEAVER SLIPS
      have hsp : ¬ AtOr k i := fun e => e.elim hi0 hik
      obtain ⟨gs₁, ops, q₁, hrunT, hsz₁, hsp₁, F₁, hlt, _⟩ := F.slip (w := w.at d) (sl := sl') hi hsp hg (fun x gx hx hgx => by
        rcases hx with rfl | rfl
        · rw [h0] at hgx
          obtain rfl := Option.some.inj hgx
          exact again_a _ hc1
        · rw [hk] at hgx
          obtain rfl := Option.some.inj hgx
          exact again_b _ hc1)
      exact ⟨gs₁, w.at d, sl', ops, (vs.length + 2, ra + rb + sumTo gs₁.size q₁), hst.trans hrunT, hsz₁, .right _ (by omega),
        .opn vs a b (w.at d) sl' _ gs₁ q₁ s r tm ra rb (by rw [hsp₁ 0 (.inl rfl)]; exact h0) (by rw [hsp₁ k (.inr rfl)]; exact hk) hS1 hc1 (hA.rely hAs) hB hpos F₁⟩
theorem at0_awake {a : Goroutine} {t : Trace} {gs : Array Goroutine} {q : Nat → Nat} {Mem Loose : Nat → Prop} (h0 : gs[0]? = some a) (ha : a.status = .running) (F : Frm P At0 Still Mem Loose t gs q) : ∀ g ∈ gs, awake g := by
  intro g hg
  obtain ⟨i, hi, rfl⟩ := Array.mem_iff_getElem.1 hg
  by_cases h : i = 0
  · subst h
    have : gs[0] = a := by simpa [Array.getElem?_eq_getElem hi] using h0
    rw [this]; exact awake_of (.inl ha)
  · exact awake_of ((F.old i _ h (Array.getElem?_eq_getElem hi)).2.status.elim .inl fun x => .inr (.inr x))
theorem step_shutC (hk0 : k ≠ 0) {a : Goroutine} {w : World} {sl : Option (Nat × Nat)} {t : Trace} {gs : Array Goroutine} {q : Nat → Nat} {s r : Nat} {tm : Bool} {n : Nat}
    (h0 : gs[0]? = some a) (hc : w.heap[c]? = some (.chan 0 #[] true s r tm)) (hA : Goes P true (Aside c) (DA c S (Own Still)) (StopA P c S (Own Still) z Fin []) n a w)
    (F : Frm P At0 Still At0 (fun i => i = k) t gs q) (hC : ClosedBy c k t) :
    ∃ gs' w' sl' ops μ', stepT P (crowd gs w sl) = (.next (crowd gs' w' sl'), ops) ∧ gs'.size = gs.size ∧ Lt2 μ' (1, n + sumTo gs.size q) ∧ PInv P c S Still z Fin k μ' (crowd gs' w' sl') (t ++ ops) := by
  have hra : a.status = .running := hA.running (fun _ _ => StopA.running) w (Aside.refl c w)
  have hlt0 : 0 < gs.size := (Array.getElem?_eq_some_iff.1 h0).1
  obtain ⟨i, g, d, sl', hi, hg, hst⟩ := crowd_pick (P := P) (w := w) (sl := sl) (at0_awake h0 hra F) ⟨0, a, h0, hra⟩
  have hAs : Aside c w (w.at d) := Aside.at c w d
  have hc1 : (w.at d).heap[c]? = some (.chan 0 #[] true s r tm) := hc
  by_cases hi0 : i = 0
  · subst hi0
    obtain rfl : g = a := by rw [h0] at hi; exact (Option.some.inj hi).symm
    rcases hA.cases with hstop | ⟨n', rfl, hstep⟩
    · -- the receiver finds the channel closed
      have hat := hstop _ hAs
      obtain ⟨es, hcomm, hes⟩ := hat.comm
      obtain ⟨ho, hr, hd⟩ := evA_ops hes g.frame.fn g.frame.place
      have hp : partners (gs.setIfInBounds 0 ph) c true = [] := partners_nil fun x y hy => by
        rcases getElem?_stand gs 0 x y hy with ⟨_, rfl⟩ | ⟨hx, hy'⟩
        · exact offersAt_ph _ _
        · exact offersAt_of_not_blocked (fun h => by rcases (F.old x y hx hy').2.status with e | e <;> rw [e] at h <;> cases h) c true
      have hm := crowd_recv_closed (P := P) (sl := sl') hi hcomm hc1 hp
      have hP1 := F.past.app0 rfl ho hr (fun op hop d => hd op hop 0 d)
      obtain ⟨pc, opc, e1, e2, e3, e4, e5⟩ := hC.app (u := MemOp.ofEvents 0 g.frame.fn g.frame.place es) (fun op hop hg => absurd (hg.symm.trans (ho op hop)) hk0)
      obtain ⟨B, H⟩ := hP1.found rfl e1 e2 e3 e4 e5 (core g).frame.fn (core g).frame.place
      refine ⟨_, _, _, _, (0, 0), hst.trans hm, by simp, .left _ _ (by omega), ?_⟩
      rw [← Array.append_assoc]
      refine .fin _ _ sl' _ _ q (Array.getElem?_setIfInBounds_self_of_lt hlt0) (hat.nil _ (Aside.refl c _)) ?_
      have F1 := F.turn (gs' := gs) (u := MemOp.ofEvents 0 g.frame.fn g.frame.place es) rfl (fun _ _ => rfl) (fun op hop => ⟨ho op hop, by rw [ho op hop]; exact hlt0⟩) hP1 F.mem
      refine F1.turn (by simp) (fun x hx => Array.getElem?_setIfInBounds_ne (fun e => hx e.symm)) (fun op hop => ?_) ⟨B, PastH.ofPast (PastH.toPast H rfl fun g h => h.2 h.1) (fun l h => h.elim)⟩ (fun _ h => h)
      simp only [List.mem_toArray, List.mem_cons, List.not_mem_nil, or_false] at hop
      subst hop
      exact ⟨rfl, hlt0⟩
    · obtain ⟨a', w', es, hgo, ⟨_, hcc, hes⟩, hg'⟩ := hstep _ hAs
      obtain ⟨ho, hr, hd⟩ := evA_ops hes g.frame.fn g.frame.place
      have hfix := map_woken (P := P) (gs := gs) (g := g) (g' := a') (w' := w') (i := 0) (fun x y hx hy => F.again hx hy w') a'
      refine ⟨_, _, _, _, (1, n' + sumTo gs.size q), hst.trans (runT_crowd_go hi hgo), by simp, .right _ (by omega), ?_⟩
      have := PInv.shut (P := P) (c := c) (S := S) (Still := Still) (z := z) (Fin := Fin) (k := k) a' w' sl' (t ++ MemOp.ofEvents 0 g.frame.fn g.frame.place es) ((gs.map (woken P g a' w')).setIfInBounds 0 a') q s r tm n'
        (Array.getElem?_setIfInBounds_self_of_lt (by simpa using hlt0)) (hcc.trans hc1) hg'
        (F.turn (by simp) (fun x hx => hfix x hx) (fun op hop => ⟨ho op hop, by rw [ho op hop]; exact hlt0⟩) (F.past.app0 rfl ho hr (fun op hop d => hd op hop 0 d)) F.mem)
        (hC.app fun op hop hg => absurd (hg.symm.trans (ho op hop)) hk0)
      rw [show ((gs.map (woken P g a' w')).setIfInBounds 0 a').size = gs.size by simp] at this
      exact this
  · obtain ⟨gs₁, ops, q₁, hrunT, hsz₁, hsp₁, F₁, hlt, hops⟩ := F.slip (w := w.at d) (sl := sl') hi hi0 hg (fun x gx hx hgx => by
      obtain rfl : x = 0 := hx
      rw [h0] at hgx
      obtain rfl := Option.some.inj hgx
      exact again_running _ (.inl hra))
    exact ⟨gs₁, w.at d, sl', ops, (1, n + sumTo gs₁.size q₁), hst.trans hrunT, hsz₁, .right _ (by omega),
      .shut a (w.at d) sl' _ gs₁ q₁ s r tm n (by rw [hsp₁ 0 rfl]; exact h0) hc1 (Goes.rely (R := Aside c) (fun _ _ _ h h' => Aside.trans h h') hA hAs) F₁ (hC.app fun op hop _ => (hops op hop).2)⟩
/-- A go STATEMENT OF GOROUTINE 0's: parent and child follow the two scripts. -/
theorem pipe_runs (hk0 : k ≠ 0) (hSt : ∀ w w₁, Aside c w w₁ → S w → S w₁) (N₀ : Nat) : ∀ μ m t, (PInv P c S Still z Fin k μ m t ∧ m.gs.size = N₀) → ∃ N m' t', runNT P N m t = (.next m', t') ∧ PDone P Fin N₀ m' t' := by
  refine runs_untilW (r := Lt2) (Prod.lex Nat.lt_wfRel Nat.lt_wfRel).wf ?_
  rintro μ m t ⟨hI, hn⟩
  cases hI with
  | opn vs a b w sl t gs q s r tm ra rb h0 hk hS hc hA hB hpos F =>
    obtain ⟨gs', w', sl', ops, μ', h1, h2, h3, h4⟩ := step_opnC (sl := sl) hk0 hSt h0 hk hS hc hA hB hpos F
    exact .inr ⟨_, ops, μ', h1, h3, h4, h2.trans hn⟩
  | shut a w sl t gs q s r tm n h0 hc hA F hC =>
    obtain ⟨gs', w', sl', ops, μ', h1, h2, h3, h4⟩ := step_shutC (sl := sl) hk0 h0 hc hA F hC
    exact .inr ⟨_, ops, μ', h1, h3, h4, h2.trans hn⟩
  | fin a w sl t gs q h0 hF F => exact .inl ⟨gs, a, w, sl, q, rfl, hn, h0, hF, F⟩
end
/-- GOROUTINE 0 STANDS AT A go STATEMENT; behind it parent and child follow the two scripts for the same values over an open channel without a buffer. -/
def AtGoP (P : Program) (Fin : Goroutine → World → Prop) (a : Goroutine) (w : World) : Prop :=
  a.status = .running ∧ ∀ d, ∃ (a' child : Goroutine) (w' : World) (es : Array Event) (c : Nat) (S : World → Prop) (Still : Loc → Prop) (z : Value) (vs : List Value) (s r : Nat) (tm : Bool),
    stepG P true a (w.at d) = .spawn a' child w' es ∧ Ev es ∧ (∀ l, Still l → l.isMemory = true) ∧ (∀ w w₁, Aside c w w₁ → S w → S w₁) ∧ S w' ∧ w'.heap[c]? = some (.chan 0 #[] false s r tm) ∧
    Recvs P c S (Own Still) z Fin vs a' w' ∧ SendsR P c S (Own Still) vs child
section
variable {P : Program} {Fin : Goroutine → World → Prop} {t : Trace} {gs : Array Goroutine} {q : Nat → Nat}
theorem runT_crowd_spawn {i : Nat} {g g' child : Goroutine} {w w' : World} {sl : Option (Nat × Nat)} {es : Array Event} (hi : gs[i]? = some g) (h : stepG P (i == 0) g w = .spawn g' child w' es) :
    runT P (crowd gs w sl) i = (.next (crowd ((gs.setIfInBounds i g').push child) w' sl), MemOp.ofEvents i g.frame.fn g.frame.place es ++ #[{ g := i, fn := g.frame.fn, pos := g.frame.place, act := .go gs.size }, { g := gs.size, fn := child.frame.fn, pos := g.frame.place, act := .start }]) := by
  obtain ⟨hlt, rfl⟩ := Array.getElem?_eq_some_iff.1 hi
  have hsw := swapAt_of_lt hlt { (default : Goroutine) with status := .finished }
  show runT P { world := w, gs := gs, rest := { timers := #[], alone := none, slice := sl } } i = _
  unfold runT
  simp only [hsw, h, GStep.es, set_setIfInBounds hlt, Array.size_set]
  rfl
/-- ████ THE PHASE: from a frame at a go statement to a frame in which the channel has been found closed. ████ -/
theorem pipe_phase {a : Goroutine} {w : World} {sl : Option (Nat × Nat)} (h0 : gs[0]? = some a) (F : Frm0 P t gs q) (hA : AtGoP P Fin a w) :
    ∃ (N : Nat) (gs' : Array Goroutine) (a' : Goroutine) (w' : World) (sl' : Option (Nat × Nat)) (t' : Trace) (q' : Nat → Nat),
      runNT P N (crowd gs w sl) t = (.next (crowd gs' w' sl'), t') ∧ gs'.size = gs.size + 1 ∧ gs'[0]? = some a' ∧ Fin a' w' ∧ Frm0 P t' gs' q' := by
  obtain ⟨hrun, hA⟩ := hA
  -- the leavers may slip ahead of the go statement
  have ahead : ∀ (M : Nat) (w₀ : World) (gs : Array Goroutine) (sl : Option (Nat × Nat)) (t : Trace) (q : Nat → Nat), sumTo gs.size q ≤ M → AtRel w w₀ → gs[0]? = some a → Frm0 P t gs q →
      ∃ (N : Nat) (gs₁ : Array Goroutine) (w₁ : World) (sl₁ sl₂ : Option (Nat × Nat)) (t₁ : Trace) (q₁ : Nat → Nat) (d : Nat), runNT P N (crowd gs w₀ sl) t = (.next (crowd gs₁ w₁ sl₁), t₁) ∧ gs₁.size = gs.size ∧ gs₁[0]? = some a ∧ Frm0 P t₁ gs₁ q₁ ∧
        stepT P (crowd gs₁ w₁ sl₁) = runT P (crowd gs₁ (w.at d) sl₂) 0 := by
    intro M
    induction M with
    | zero =>
      intro w₀ gs sl t q hM hr h0 F
      obtain ⟨i, g, d, sl', hi, hg, hst⟩ := crowd_pick (P := P) (w := w₀) (sl := sl) (F.awake h0 hrun) ⟨0, a, h0, hrun⟩
      obtain ⟨d', rfl⟩ := hr
      by_cases h : i = 0
      · subst h
        exact ⟨0, gs, w.at d', sl, sl', t, q, d, rfl, rfl, h0, F, hst⟩
      · obtain ⟨gs', ops, q', _, _, _, _, hlt, _⟩ := F.slip (w := (w.at d').at d) (sl := sl') hi h hg (fun x gx hx hgx => by
          obtain rfl : x = 0 := hx
          rw [h0] at hgx
          obtain rfl := Option.some.inj hgx
          exact again_running _ (.inl hrun))
        omega
    | succ M ihM =>
      intro w₀ gs sl t q hM hr h0 F
      obtain ⟨i, g, d, sl', hi, hg, hst⟩ := crowd_pick (P := P) (w := w₀) (sl := sl) (F.awake h0 hrun) ⟨0, a, h0, hrun⟩
      obtain ⟨d', rfl⟩ := hr
      by_cases h : i = 0
      · subst h
        exact ⟨0, gs, w.at d', sl, sl', t, q, d, rfl, rfl, h0, F, hst⟩
      · obtain ⟨gs₁, ops, q₁, hrunT, hsz₁, hsp₁, F₁, hlt, _⟩ := F.slip (w := (w.at d').at d) (sl := sl') hi h hg (fun x gx hx hgx => by
          obtain rfl : x = 0 := hx
          rw [h0] at hgx
          obtain rfl := Option.some.inj hgx
          exact again_running _ (.inl hrun))
        obtain ⟨N, gs₂, w₂, sl₂, sl₃, t₂, q₂, d₂, hr2, hsz2, h02, F2, hst2⟩ := ihM ((w.at d').at d) gs₁ sl' (t ++ ops) q₁ (by omega) ⟨d, rfl⟩ (by rw [hsp₁ 0 rfl]; exact h0) F₁
        exact ⟨N + 1, gs₂, w₂, sl₂, sl₃, t₂, q₂, d₂, by simp only [runNT, hst, hrunT]; exact hr2, hsz2.trans hsz₁, h02, F2, hst2⟩
  obtain ⟨N, gs₁, w₁, sl₁, sl₂, t₁, q₁, d, hr1, hsz1, h01, F1, hst1⟩ := ahead _ w gs sl t q (Nat.le_refl _) (atRel_refl w) h0 F
  obtain ⟨a', child, w', es, c, S, Still, z, vs, s, r, tm, hsp, hev, hmem, hSt, hS, hc, hRe, hSe⟩ := hA d
  have hlt0 : 0 < gs₁.size := (Array.getElem?_eq_some_iff.1 h01).1
  have hk0 : gs₁.size ≠ 0 := by omega
  have hspw := runT_crowd_spawn (P := P) (sl := sl₂) (i := 0) h01 hsp
  obtain ⟨ho, hd⟩ := ev_ops0 hev 0 a.frame.fn a.frame.place
  have hP1 := F1.past.app0 rfl ho (fun op hop b _ hb => hb.elim) (fun op hop d => hd op hop 0 d)
  have habove : ∀ j, gs₁.size ≤ j → Deaf (t₁ ++ MemOp.ofEvents 0 a.frame.fn a.frame.place es) j = 0 := fun j hj => by
    rw [Deaf_other t₁ (g' := 0) (by omega) _ ho]
    exact F1.above j hj
  obtain ⟨B, H⟩ := hP1
  have H2 := PastH.hire (PastH.ofPast (Still := Still) (PastH.toPast H rfl fun g h => h) hmem) rfl (habove _ (Nat.le_refl _)) a.frame.fn a.frame.place child.frame.fn
  have hget : ∀ x, x ≠ 0 → x ≠ gs₁.size → ((gs₁.setIfInBounds 0 a').push child)[x]? = gs₁[x]? := fun x hx hxk => by
    rw [Array.getElem?_push]
    rw [if_neg (by simpa using hxk), Array.getElem?_setIfInBounds_ne (fun e => hx e.symm)]
  have hqu : ∀ g, ∀ op ∈ (#[{ g := 0, fn := a.frame.fn, pos := a.frame.place, act := .go gs₁.size }, { g := gs₁.size, fn := child.frame.fn, pos := a.frame.place, act := .start }] : Trace), ∀ d, deafStep g d op = d := by
    intro g op hop d
    simp only [List.mem_toArray, List.mem_cons, List.not_mem_nil, or_false] at hop
    rcases hop with rfl | rfl <;> rfl
  have F2 : Frm P (AtOr gs₁.size) Still (AtOr gs₁.size) (fun i => i = gs₁.size) (t₁ ++ MemOp.ofEvents 0 a.frame.fn a.frame.place es ++ #[{ g := 0, fn := a.frame.fn, pos := a.frame.place, act := .go gs₁.size }, { g := gs₁.size, fn := child.frame.fn, pos := a.frame.place, act := .start }])
      ((gs₁.setIfInBounds 0 a').push child) q₁ := by
    refine ⟨fun x y hx hy => ?_, fun j hj => ?_, ⟨B, ?_⟩, fun _ h => h⟩
    · have hx0 : x ≠ 0 := fun e => hx (.inl e)
      have hxk : x ≠ gs₁.size := fun e => hx (.inr e)
      rw [hget x hx0 hxk] at hy
      obtain ⟨hp, hq⟩ := F1.old x y hx0 hy
      refine ⟨hp, ?_⟩
      rw [Deaf_quiet (hqu x), Deaf_other t₁ (g' := 0) (fun e => hx0 e.symm) _ ho]
      exact hq
    · rw [Deaf_quiet (hqu j)]
      exact habove j (by simp at hj; omega)
    · exact PastG.fewer (PastG.loosen H2 (fun g h => h.elim (fun h => h.elim) id)) (fun g h => h)
  obtain ⟨na, hna⟩ := (recvs_iff P c S (Own Still) z Fin vs _ _).1 hRe
  obtain ⟨nb, hnb⟩ := (sendsR_iff P c S (Own Still) vs _).1 hSe
  have hI := PInv.opn (P := P) (c := c) (S := S) (Still := Still) (z := z) (Fin := Fin) (k := gs₁.size) vs a' child w' sl₂ _ _ q₁ s r tm (na + 1) (nb + 1) (by rw [Array.getElem?_push, if_neg (by simpa using fun e => hk0 e.symm)]; exact Array.getElem?_setIfInBounds_self_of_lt hlt0)
    (by rw [Array.getElem?_push, if_pos (by simp)]) hS hc (.inl ⟨na, rfl, hna⟩) (.inl ⟨nb, rfl, hnb⟩) (by omega) F2
  obtain ⟨M, m', t', hrM, gs', a₂, w₂, sl', q', rfl, hsz', h0', hF', F'⟩ := pipe_runs hk0 hSt (gs₁.size + 1) _ _ _ ⟨hI, by simp [crowd]⟩
  refine ⟨N + (1 + M), gs', a₂, w₂, sl', t', q', ?_, by rw [hsz', hsz1], h0', hF', F'⟩
  rw [runNT_add, hr1]
  simp only
  rw [runNT_add]
  simp only [runNT, hst1, hspw]
  rw [← Array.append_assoc]
  exact hrM
end
end Go.Proofs.Ytaeaacdjiijooaa.Lift
