import Derived.RangeFuncLeaves
import Derived.RangeFuncRecord
import Derived.RangeFuncSeq
import Derived.RangeFuncBound
import Derived.Below
import Derived.Deep.Draws
import Derived.Test.YtaeaacdjiijooaaDoorPrx21
import Derived.Test.YtaeaacdjiijooaaDoorPrx0
import Derived.OwnWalkIn
import Derived.Maps.AppendAt
import Derived.Test.YtaeaacdjiijooaaDoorPrx2
import Derived.LoopTactic
import Derived.Outline
import Derived.TacticsInMore
import Derived.LoopNIn
import Derived.LoopIn
import Derived.RangeFuncCalls
import Derived.RangeFuncOwn
import Derived.Shelf.Abstract
/- A law of the walk for 'for x := range seq { .. }' where the iterator has blocks of its own (and may range over iterators itself): what the iterator may turn is named by a set of blocks that grows. -/
namespace Go.IterLaw
open Go Go.RowKit

/-- What an iterator does by itself: it turns blocks of its own (Pv), lays new ones, of which some are its own behind. -/
structure Its (Pv Pv' : Nat → Prop) (W W' : World) : Prop where
  os : W'.os = W.os
  tape : W'.tape = W.tape
  output : W'.output = W.output
  size : W.heap.size ≤ W'.heap.size
  block : ∀ k, k < W.heap.size → ¬ Pv k → W'.heap[k]? = W.heap[k]?
  own : ∀ k, Pv' k → Pv k ∨ (W.heap.size ≤ k ∧ k < W'.heap.size)
  sub : ∀ k, Pv k → Pv' k

theorem Its.refl (Pv : Nat → Prop) (W : World) : Its Pv Pv W W := ⟨rfl, rfl, rfl, Nat.le_refl _, fun _ _ _ => rfl, fun _ h => .inl h, fun _ h => h⟩
theorem Its.trans {Pv Pv' Pv'' : Nat → Prop} {A B C : World} (h : Its Pv Pv' A B) (k : Its Pv' Pv'' B C) : Its Pv Pv'' A C :=
  ⟨k.os.trans h.os, k.tape.trans h.tape, k.output.trans h.output, Nat.le_trans h.size k.size,
    fun i hi hn => (k.block i (Nat.lt_of_lt_of_le hi h.size) (fun hp => (h.own i hp).elim hn (fun e => by omega))).trans (h.block i hi hn),
    fun i hi => (k.own i hi).elim (fun e => (h.own i e).imp id (fun e => ⟨e.1, Nat.lt_of_lt_of_le e.2 k.size⟩)) (fun e => .inr ⟨Nat.le_trans h.size e.1, e.2⟩), fun i hi => k.sub i (h.sub i hi)⟩
/-- A new block of one's own. -/
theorem Its.alloc (Pv : Nat → Prop) (W : World) (o : Obj) : Its Pv (fun k => Pv k ∨ k = W.heap.size) W (W.alloc o) :=
  ⟨rfl, rfl, rfl, by simp, fun k hk _ => Below.heap_alloc W o k hk, fun k hk => hk.imp id (fun e => by subst e; simp), fun _ h => .inl h⟩
theorem Its.drew (Pv : Nat → Prop) (W : World) : Its Pv Pv W W.drew := ⟨rfl, rfl, rfl, Nat.le_refl _, fun _ _ _ => rfl, fun _ h => .inl h, fun _ h => h⟩
theorem Its.drewN (Pv : Nat → Prop) (W : World) (n : Nat) : Its Pv Pv W (W.drewN n) := ⟨rfl, rfl, rfl, Nat.le_refl _, fun _ _ _ => rfl, fun _ h => .inl h, fun _ h => h⟩
/-- A block of one's own is turned. -/
theorem Its.putObj {Pv : Nat → Prop} {W : World} {l : Nat} (o : Obj) (h : Pv l) : Its Pv Pv W (W.putObj l o) :=
  ⟨rfl, rfl, rfl, by simp, fun k _ hn => World.putObj_heap_other (fun e => hn (e ▸ h)), fun _ h => .inl h, fun _ h => h⟩
/-- What lies below is as it was, new blocks lie behind: whatever is new may be called one's own. -/
theorem Its.of_below {Pv : Nat → Prop} {W W' : World} (h : Below W.heap.size W W') : Its Pv Pv W W' :=
  ⟨h.os, h.tape, h.output, h.size, fun k hk _ => h.block k hk, fun _ h => .inl h, fun _ h => h⟩
theorem Its.of_below_own {Pv : Nat → Prop} {W W' : World} (h : Below W.heap.size W W') : Its Pv (fun k => Pv k ∨ (W.heap.size ≤ k ∧ k < W'.heap.size)) W W' :=
  ⟨h.os, h.tape, h.output, h.size, fun k hk _ => h.block k hk, fun _ h => h, fun _ h => .inl h⟩
/-- More may be called one's own. -/
theorem Its.widen {Pv Pv' R : Nat → Prop} {A B : World} (h : Its Pv Pv' A B) : Its (fun k => Pv k ∨ R k) (fun k => Pv' k ∨ R k) A B :=
  ⟨h.os, h.tape, h.output, h.size, fun k hk hn => h.block k hk (fun hp => hn (.inl hp)), fun k hk => hk.elim (fun hp => (h.own k hp).imp .inl id) (fun hr => .inl (.inr hr)), fun k hk => hk.imp (h.sub k) id⟩
theorem Its.below {Pv Pv' : Nat → Prop} {A B : World} {n : Nat} (h : Its Pv Pv' A B) (hn : n ≤ A.heap.size) (hp : ∀ k, Pv k → n ≤ k) : Below n A B :=
  ⟨h.os, h.tape, h.output, h.size, fun k hk => h.block k (by omega) (fun hpk => by have := hp k hpk; omega)⟩

/-- What a round keeps: what lies below n0, and the iterator's own blocks. -/
structure KeptI (n0 : Nat) (Pv : Nat → Prop) (W W' : World) : Prop where
  below : Below n0 W W'
  same : ∀ k, Pv k → k < W.heap.size → W'.heap[k]? = W.heap[k]?
theorem KeptI.refl (n0 : Nat) (Pv : Nat → Prop) (W : World) : KeptI n0 Pv W W := ⟨Below.refl _ _, fun _ _ _ => rfl⟩
theorem KeptI.trans {n0 : Nat} {Pv : Nat → Prop} {A B C : World} (h : KeptI n0 Pv A B) (k : KeptI n0 Pv B C) : KeptI n0 Pv A C :=
  ⟨h.below.trans k.below, fun i hi hl => (k.same i hi (Nat.lt_of_lt_of_le hl h.below.size)).trans (h.same i hi hl)⟩
theorem KeptI.mono {n0 : Nat} {Pv R : Nat → Prop} {A B : World} (h : KeptI n0 Pv A B) (hs : ∀ k, R k → Pv k) : KeptI n0 R A B := ⟨h.below, fun k hk => h.same k (hs k hk)⟩

def AbidesI {β : Type} (J : β → (Nat → Prop) → World → Prop) : Prop := ∀ s Pv Pv' W W', J s Pv W → Its Pv Pv' W W' → J s Pv' W'

/-- One round, as the iterator meets it. -/
def RoundI {α : Type} (P : Program) (l : Nat) (encs : α → Array Value) (n0 : Nat) (S : List α → Prop) (J Jx : List α → (Nat → Prop) → World → Prop) : Prop :=
  ∀ (m : Nat) (pre : List α) (x : α) (Pv : Nat → Prop) (W : World), S (pre ++ [x]) → J pre Pv W →
    YieldAt Fence.wide m P l (encs x) W fun e W' => KeptI n0 Pv W W' ∧ ((e = .returned (.bool true) ∧ J (pre ++ [x]) Pv W') ∨ (e = .returned (.bool false) ∧ Jx (pre ++ [x]) Pv W'))

/-- What an iterator's call comes to: all of xs have come, or a round has said 'no more'. -/
def EndsI {α : Type} (n0 : Nat) (J Jx : List α → (Nat → Prop) → World → Prop) (pre xs : List α) (Pv : Nat → Prop) (W : World) (e : Ending) (W' : World) : Prop :=
  (∃ v, e = .returned v) ∧ ∃ Pv' : Nat → Prop, (∀ k, Pv k → Pv' k) ∧ Below n0 W W' ∧ (J (pre ++ xs) Pv' W' ∨ ∃ q, q <+: xs ∧ Jx (pre ++ q) Pv' W')

def bodyP {α : Type} (n0 : Nat) (Pv : Nat → Prop) (I : List α → (Nat → Prop) → World → Prop) (Ix : Code → List α → (Nat → Prop) → World → Prop) (s : List α) (W : World) : Exit → Act → World → Prop
  | .normal, _, W' => KeptI n0 Pv W W' ∧ I s Pv W'
  | .ret, _, W' => KeptI n0 Pv W W' ∧ Ix .ret s Pv W'
  | .exit id, _, W' => KeptI n0 Pv W W' ∧ Ix (.exit id) s Pv W'
  | .goto t, _, W' => KeptI n0 Pv W W' ∧ Ix (.goto t) s Pv W'
  | .panic _, _, _ => False
  | .outgrown, _, _ => False

theorem room1 {n : Nat} : (Fence.wide.depth.isSome = true → 1 ≤ n) := fun h => by simp [Fence.wide] at h

/-- THE LAW. -/
theorem range {α : Type} {P : Program} {n : Nat} {g : Operand} {ps : Array Tmp} {assign body : Code} {Q : Exit → Act → World → Prop} {a : Act} {w : World}
    {gf : Nat} {lb : Array Value} (hg : a.eval g = .func (.func gf) #[] lb) (eg : ∀ args w, (callFunc gf args).run P w = .ok (.enter gf args) w)
    {encs : α → Array Value} (hps : ∀ x, (encs x).size = ps.size) {n0 : Nat} (hn0 : n0 ≤ w.heap.size) {xs : List α} (Pv0 : Nat → Prop) (hPv0 : ∀ k, Pv0 k → k < w.heap.size)
    (I : List α → (Nat → Prop) → World → Prop) (Ix : Code → List α → (Nat → Prop) → World → Prop) (hI : AbidesI I) (hIx : ∀ c, AbidesI (Ix c)) (h0 : I [] Pv0 w)
    (hseq : ∀ (m l : Nat) (J Jx : List α → (Nat → Prop) → World → Prop) (W : World), AbidesI J → AbidesI Jx → RoundI P l encs n0 (fun q => q <+: xs) J Jx → J [] Pv0 W → Below w.heap.size w W → w.heap.size ≤ W.heap.size →
      CallsIn Fence.wide m P gf (#[.func (.yield l) #[] #[]] ++ lb) W (EndsI n0 J Jx [] xs Pv0 W))
    (hround : ∀ (l D m : Nat) (pre : List α) (x : α) (Pv : Nat → Prop) (W : World), pre ++ [x] <+: xs → I pre Pv W → Pv l → Pv D → w.heap.size ≤ l → w.heap.size ≤ D → (∃ r, W.heap[l]? = some (.loop r)) →
      assign.wpIn (Fence.wide.inRound l) m P (Exit.then (fun a₁ W₁ => KeptI n0 Pv W W₁ ∧ ∀ W₂, Its Pv Pv W₁ W₂ → (∀ k, k ≠ l → W₂.heap[k]? = W₁.heap[k]?) → W₂.heap.size = W₁.heap.size → (∃ r, W₂.heap[l]? = some (.loop r)) → body.wpIn (Fence.wide.inRound l) m P (bodyP n0 Pv I Ix (pre ++ [x]) W₂) a₁ W₂) (fun _ _ _ => False))
        { tmps := (ps.zip (encs x)).foldl (fun t (p, v) => t.setIfInBounds p v) a.tmps, defers := [] } W)
    (hdone : ∀ (D : Nat) (Pv : Nat → Prop) (W : World), w.heap.size ≤ D → Pv D → I xs Pv W → Below n0 w W → W.heap[D]? = some (.deferred (some [])) → Q .normal { a with defers := { target := .collected D, args := #[] } :: a.defers } W)
    (hstop : ∀ (D : Nat) (c : Code) (q : List α) (Pv : Nat → Prop) (W : World), w.heap.size ≤ D → Pv D → q <+: xs → Ix c q Pv W → Below n0 w W → W.heap[D]? = some (.deferred (some [])) → c.wpIn Fence.wide n P Q { a with defers := { target := .collected D, args := #[] } :: a.defers } W) :
    (Code.rangeFunc g ps assign body).wpIn Fence.wide n P Q a w := by
  refine wpIn_rangeFunc ?_
  intro fn hfn
  obtain ⟨rec, hrec⟩ : ∃ rec : LoopState → Option Code → Loop, rec = fun st pe => { state := st, pending := pe, fn, tmps := a.tmps, params := ps, assign, body, defers := w.heap.size } := ⟨_, rfl⟩
  obtain ⟨W1, hW1⟩ : ∃ W1, (w.alloc (.deferred (some []))).alloc (.loop (rec .ready none)) = W1 := ⟨_, rfl⟩
  obtain ⟨l, hl⟩ : ∃ l, w.heap.size + 1 = l := ⟨_, rfl⟩
  obtain ⟨D, hD⟩ : ∃ D, w.heap.size = D := ⟨_, rfl⟩
  have hL1 : W1.heap[l]? = some (.loop (rec .ready none)) := by
    rw [← hW1, ← hl]; have := World.alloc_heap_new (w.alloc (.deferred (some []))) (.loop (rec .ready none)); rwa [World.size_alloc] at this
  have hK1 : W1.heap[D]? = some (.deferred (some [])) := by
    rw [← hW1, ← hD]; exact (Below.heap_alloc _ _ _ (by simp)).trans (World.alloc_heap_new w _)
  have hb1 : Below w.heap.size w W1 := by
    rw [← hW1]; exact ((Below.refl _ w).alloc (Nat.le_refl _) _).alloc (by simp) _
  have hs1 : W1.heap.size = w.heap.size + 2 := by rw [← hW1]; simp
  -- what the iterator's rounds keep going: the caller's word, the record ready
  let X : (Nat → Prop) → Nat → Prop := fun Pv k => Pv k ∨ (k = l ∨ k = D)
  let J : List α → (Nat → Prop) → World → Prop := fun pre Pv W => I pre (X Pv) W ∧ W.heap[l]? = some (.loop (rec .ready none)) ∧ W.heap[D]? = some (.deferred (some [])) ∧ ¬ Pv l ∧ ¬ Pv D
  let Jx : List α → (Nat → Prop) → World → Prop := fun pre Pv W => ∃ c, Ix c pre (X Pv) W ∧ W.heap[l]? = some (.loop (rec .done (some c))) ∧ W.heap[D]? = some (.deferred (some [])) ∧ ¬ Pv l ∧ ¬ Pv D
  have keep : ∀ {A B : World} {Pv Pv' : Nat → Prop} {k : Nat} {o : Obj}, Its Pv Pv' A B → A.heap[k]? = some o → ¬ Pv k → B.heap[k]? = some o ∧ ¬ Pv' k := fun {A B Pv Pv' k o} h ho hp => by
    have hk : k < A.heap.size := (Array.getElem?_eq_some_iff.1 ho).1
    exact ⟨(h.block k hk hp).trans ho, fun hp' => (h.own k hp').elim hp (fun e => by omega)⟩
  have aJ : AbidesI J := fun s Pv Pv' A B hs h => ⟨hI s _ _ A B hs.1 h.widen, (keep h hs.2.1 hs.2.2.2.1).1, (keep h hs.2.2.1 hs.2.2.2.2).1, (keep h hs.2.1 hs.2.2.2.1).2, (keep h hs.2.2.1 hs.2.2.2.2).2⟩
  have aJx : AbidesI Jx := fun s Pv Pv' A B hs h => by
    obtain ⟨c, h1, h2, h3, h4, h5⟩ := hs
    exact ⟨c, hIx c s _ _ A B h1 h.widen, (keep h h2 h4).1, (keep h h3 h5).1, (keep h h2 h4).2, (keep h h3 h5).2⟩
  have hJ1 : J [] Pv0 W1 := ⟨hI [] Pv0 _ w W1 h0 ⟨hb1.os, hb1.tape, hb1.output, hb1.size, fun k hk _ => hb1.block k hk, fun k hk => hk.elim .inl (fun e => by rcases e with rfl | rfl <;> exact .inr (by omega)), fun _ h => .inl h⟩,
    hL1, hK1, fun h => by have := hPv0 _ h; omega, fun h => by have := hPv0 _ h; omega⟩
  refine ⟨l, [{ target := .collected D, args := #[] }], W1, { target := .fn (.func gf) lb, args := #[.func (.yield l) #[] #[]] }, W1, gf,
    #[.func (.yield l) #[] #[]] ++ lb, W1, ?_, ?_, fun _ _ => trivial, ?_, room1, ?_⟩
  · rw [← hW1, hrec, ← hl, ← hD]; exact run_enterLoop_outer _ _ _ _ _
  · simp only [resolve, hg]
    simp [go_sem]
  · simp [invoke, go_sem, eg]
  · refine (hseq (n - 1) l J Jx W1 aJ aJx ?_ hJ1 hb1 (by omega)).mono ?_
    · -- one round
      rintro m pre x Pv W hpx ⟨hi, hl1, hk1, nl, nD⟩
      have hlt : l < W.heap.size := (Array.getElem?_eq_some_iff.1 hl1).1
      have hy := run_yield (P := P) (args := encs x) hl1 (by rw [hrec]; exact hps x)
      rw [hrec] at hy
      refine ⟨fn, _, assign, body, hy, roundIn_of_wpIn hfn ?_⟩
      refine wpIn_mono (hround l D m pre x (X Pv) W hpx hi (.inr (.inl rfl)) (.inr (.inr rfl)) (by omega) (by omega) ⟨_, hl1⟩) ?_
      rintro e a1 Wa hp
      cases e with
      | normal =>
        obtain ⟨hka, hbody⟩ := hp
        have hla : Wa.heap[l]? = some (.loop (rec .ready none)) := (hka.same l (.inr (.inl rfl)) hlt).trans hl1
        have hDa : Wa.heap[D]? = some (.deferred (some [])) := (hka.same D (.inr (.inr rfl)) (Array.getElem?_eq_some_iff.1 hk1).1).trans hk1
        refine ⟨_, run_beginRound hla (by rw [hrec]), ?_⟩
        obtain ⟨Wb, hWb⟩ : ∃ Wb, Wa.putObj l (.loop { rec .ready none with state := .busy }) = Wb := ⟨_, rfl⟩
        rw [hWb]
        have hlta : l < Wa.heap.size := (Array.getElem?_eq_some_iff.1 hla).1
        have hlb : Wb.heap[l]? = some (.loop { rec .ready none with state := .busy }) := by rw [← hWb]; exact World.putObj_heap_same hlta
        have hDb : Wb.heap[D]? = some (.deferred (some [])) := by rw [← hWb]; exact (World.putObj_heap_other (by omega)).trans hDa
        have hib : Its (X Pv) (X Pv) Wa Wb := by rw [← hWb]; exact Its.putObj _ (.inr (.inl rfl))
        have hkb : KeptI n0 Pv Wa Wb := by
          rw [← hWb]
          exact ⟨⟨rfl, rfl, rfl, by simp, fun k hk => World.putObj_heap_other (by omega)⟩, fun k hk _ => World.putObj_heap_other (fun e => nl (e ▸ hk))⟩
        refine wpIn_mono (hbody Wb hib (fun k hk => by rw [← hWb]; exact World.putObj_heap_other hk) (by rw [← hWb]; simp) ⟨_, hlb⟩) ?_
        have fin : ∀ (jump : Option Code) (W3 : World), KeptI n0 (X Pv) Wb W3 →
            (Instr.endRound l jump).run P W3 = .ok (.bool jump.isNone) (W3.putObj l (.loop (rec (if jump.isNone then .ready else .done) jump))) ∧
            Its (X Pv) (X Pv) W3 (W3.putObj l (.loop (rec (if jump.isNone then .ready else .done) jump))) ∧
            (W3.putObj l (.loop (rec (if jump.isNone then .ready else .done) jump))).heap[l]? = some (.loop (rec (if jump.isNone then .ready else .done) jump)) ∧
            (W3.putObj l (.loop (rec (if jump.isNone then .ready else .done) jump))).heap[D]? = some (.deferred (some [])) ∧
            KeptI n0 Pv W (W3.putObj l (.loop (rec (if jump.isNone then .ready else .done) jump))) := fun jump W3 hk3 => by
          have hl3 := (hk3.same l (.inr (.inl rfl)) (Array.getElem?_eq_some_iff.1 hlb).1).trans hlb
          have hD3 := (hk3.same D (.inr (.inr rfl)) (Array.getElem?_eq_some_iff.1 hDb).1).trans hDb
          have hlt3 : l < W3.heap.size := (Array.getElem?_eq_some_iff.1 hl3).1
          have := run_endRound (P := P) jump hl3
          rw [hrec] at this ⊢
          refine ⟨this, Its.putObj _ (.inr (.inl rfl)), World.putObj_heap_same hlt3, (World.putObj_heap_other (by omega)).trans hD3, ?_⟩
          have k4 : KeptI n0 Pv W3 (W3.putObj l (.loop ((fun st pe => ({ state := st, pending := pe, fn, tmps := a.tmps, params := ps, assign, body, defers := w.heap.size } : Loop)) (if jump.isNone then .ready else .done) jump))) :=
            ⟨⟨rfl, rfl, rfl, by simp, fun k hk => World.putObj_heap_other (by omega)⟩, fun k hk _ => World.putObj_heap_other (fun e => nl (e ▸ hk))⟩
          exact (((hka.mono (fun _ h => .inl h)).trans hkb).trans (hk3.mono (fun _ h => .inl h))).trans k4
        rintro e a3 W3 hp
        cases e with
        | normal =>
          obtain ⟨hk3, hi3⟩ := hp
          obtain ⟨hr, hi4, hl4, hk4, kk⟩ := fin none W3 hk3
          exact ⟨_, _, hr, kk, .inl ⟨rfl, hI _ _ _ _ _ hi3 hi4, hl4, hk4, nl, nD⟩⟩
        | ret =>
          obtain ⟨hk3, hi3⟩ := hp
          obtain ⟨hr, hi4, hl4, hk4, kk⟩ := fin (some .ret) W3 hk3
          exact ⟨_, _, hr, kk, .inr ⟨rfl, .ret, hIx _ _ _ _ _ _ hi3 hi4, hl4, hk4, nl, nD⟩⟩
        | exit id =>
          obtain ⟨hk3, hi3⟩ := hp
          obtain ⟨hr, hi4, hl4, hk4, kk⟩ := fin (some (.exit id)) W3 hk3
          exact ⟨_, _, hr, kk, .inr ⟨rfl, .exit id, hIx _ _ _ _ _ _ hi3 hi4, hl4, hk4, nl, nD⟩⟩
        | goto t =>
          obtain ⟨hk3, hi3⟩ := hp
          obtain ⟨hr, hi4, hl4, hk4, kk⟩ := fin (some (.goto t)) W3 hk3
          exact ⟨_, _, hr, kk, .inr ⟨rfl, .goto t, hIx _ _ _ _ _ _ hi3 hi4, hl4, hk4, nl, nD⟩⟩
        | panic ch => exact hp.elim
        | outgrown => exact hp.elim
      | exit id => exact hp.elim
      | goto t => exact hp.elim
      | ret => exact hp.elim
      | panic ch => exact hp.elim
      | outgrown => exact hp.elim
    · -- behind the iterator
      rintro e W2 ⟨⟨v, rfl⟩, Pv', hsub, hbel, (⟨hi, hl2, hk2, nl, nD⟩ | ⟨q, hq, c, hi, hl2, hk2, nl, nD⟩)⟩
      · have he := run_endLoop (P := P) hl2 (by rw [hrec]; simp)
        refine ⟨none, _, by rw [hrec] at he; exact he, hdone D (X Pv') _ (by omega) (.inr (.inr rfl)) (hI _ _ _ _ _ hi (Its.putObj _ (.inr (.inl rfl)))) ?_ ((World.putObj_heap_other (by omega)).trans hk2)⟩
        exact ((hb1.mono hn0).trans hbel).trans ⟨rfl, rfl, rfl, by simp, fun k hk => World.putObj_heap_other (by omega)⟩
      · have he := run_endLoop (P := P) hl2 (by rw [hrec]; simp)
        refine ⟨some c, _, by rw [hrec] at he; exact he, hstop D c q (X Pv') _ (by omega) (.inr (.inr rfl)) hq (hIx c _ _ _ _ _ hi (Its.putObj _ (.inr (.inl rfl)))) ?_ ((World.putObj_heap_other (by omega)).trans hk2)⟩
        exact ((hb1.mono hn0).trans hbel).trans ⟨rfl, rfl, rfl, by simp, fun k hk => World.putObj_heap_other (by omega)⟩
/-- A range whose rounds hand each thing on to an outer yield, and return when that says 'no more'. L: blocks that the rounds read. -/
theorem forward {α : Type} {P : Program} {n : Nat} {g : Operand} {ps : Array Tmp} {assign body : Code} {Q : Exit → Act → World → Prop} {a : Act} {w : World}
    {gf : Nat} {lb : Array Value} (hg : a.eval g = .func (.func gf) #[] lb) (eg : ∀ args w, (callFunc gf args).run P w = .ok (.enter gf args) w)
    {encs : α → Array Value} (hps : ∀ x, (encs x).size = ps.size) {n0 : Nat} (hn0 : n0 ≤ w.heap.size) {xs : List α} (Pv0 : Nat → Prop) (hPv0 : ∀ k, Pv0 k → k < w.heap.size)
    {lo : Nat} {J Jx : List α → (Nat → Prop) → World → Prop} (aJ : AbidesI J) (aJx : AbidesI Jx) {S : List α → Prop} (hY : RoundI P lo encs n0 S J Jx) (pre : List α) (hS : ∀ q, q <+: xs → S (pre ++ q)) (Po : Nat → Prop) (L : List (Nat × Obj))
    (hL : ∀ p, p ∈ L → w.heap[p.1]? = some p.2 ∧ (p.1 < n0 ∨ Po p.1) ∧ ¬ Pv0 p.1) (hJ : J pre (fun k => Pv0 k ∨ Po k) w)
    (hseq : ∀ (m l : Nat) (J Jx : List α → (Nat → Prop) → World → Prop) (W : World), AbidesI J → AbidesI Jx → RoundI P l encs n0 (fun q => q <+: xs) J Jx → J [] Pv0 W → Below w.heap.size w W → w.heap.size ≤ W.heap.size →
      CallsIn Fence.wide m P gf (#[.func (.yield l) #[] #[]] ++ lb) W (EndsI n0 J Jx [] xs Pv0 W))
    (hround : ∀ (l m : Nat) (x : α) (W : World), (∃ r, W.heap[l]? = some (.loop r)) → n0 ≤ W.heap.size → (∀ p, p ∈ L → W.heap[p.1]? = some p.2) →
      assign.wpIn (Fence.wide.inRound l) m P (Exit.then (fun a₁ W₁ => (∃ o, W₁ = W.alloc o) ∧ ∀ W₂, (∀ k, k ≠ l → W₂.heap[k]? = W₁.heap[k]?) → (∃ r, W₂.heap[l]? = some (.loop r)) →
          ∀ R : Ending → World → Prop, (∀ e W', R e W' → ∃ v, e = .returned v) → (∀ m', YieldAt Fence.wide m' P lo (encs x) W₂ R) → (∀ e W', R e W' → ∃ b, e = .returned (.bool b)) →
          body.wpIn (Fence.wide.inRound l) m P (fun e _ W' => match e with | .normal => R (.returned (.bool true)) W' | .ret => R (.returned (.bool false)) W' | _ => False) a₁ W₂) (fun _ _ _ => False))
        { tmps := (ps.zip (encs x)).foldl (fun t (p, v) => t.setIfInBounds p v) a.tmps, defers := [] } W)
    (hdone : ∀ (D : Nat) (Pv : Nat → Prop) (W : World), w.heap.size ≤ D → (∀ k, Pv0 k → Pv k) → Pv D → (∀ p, p ∈ L → W.heap[p.1]? = some p.2 ∧ ¬ Pv p.1) → J (pre ++ xs) (fun k => Pv k ∨ Po k) W → Below n0 w W → W.heap[D]? = some (.deferred (some [])) →
      Q .normal { a with defers := { target := .collected D, args := #[] } :: a.defers } W)
    (hstop : ∀ (D : Nat) (q : List α) (Pv : Nat → Prop) (W : World), w.heap.size ≤ D → Pv D → (∀ p, p ∈ L → W.heap[p.1]? = some p.2 ∧ ¬ Pv p.1) → q <+: xs → Jx (pre ++ q) (fun k => Pv k ∨ Po k) W → Below n0 w W → W.heap[D]? = some (.deferred (some [])) →
      Code.ret.wpIn Fence.wide n P Q { a with defers := { target := .collected D, args := #[] } :: a.defers } W) :
    (Code.rangeFunc g ps assign body).wpIn Fence.wide n P Q a w := by
  let G : (Nat → Prop) → World → Prop := fun Pv W => (∀ p, p ∈ L → W.heap[p.1]? = some p.2 ∧ ¬ Pv p.1) ∧ n0 ≤ W.heap.size ∧ (∀ k, Pv0 k → Pv k)
  have aG : ∀ {Pv Pv' : Nat → Prop} {A B : World}, G Pv A → Its Pv Pv' A B → G Pv' B := fun {Pv Pv' A B} g h => by
    obtain ⟨g1, g2, g4⟩ := g
    refine ⟨fun p hp => ?_, Nat.le_trans g2 h.size, fun k hk => h.sub k (g4 k hk)⟩
    obtain ⟨h1, h2⟩ := g1 p hp
    have hk : p.1 < A.heap.size := (Array.getElem?_eq_some_iff.1 h1).1
    exact ⟨(h.block _ hk h2).trans h1, fun hp' => (h.own _ hp').elim h2 (fun e => by omega)⟩
  refine range hg eg hps hn0 Pv0 hPv0 (fun s Pv W => J (pre ++ s) (fun k => Pv k ∨ Po k) W ∧ G Pv W) (fun c s Pv W => c = .ret ∧ Jx (pre ++ s) (fun k => Pv k ∨ Po k) W ∧ G Pv W)
    (fun s Pv Pv' A B h i => ⟨aJ _ _ _ A B h.1 i.widen, aG h.2 i⟩) (fun c s Pv Pv' A B h i => ⟨h.1, aJx _ _ _ A B h.2.1 i.widen, aG h.2.2 i⟩)
    ⟨by simpa using hJ, fun p hp => ⟨(hL p hp).1, (hL p hp).2.2⟩, hn0, fun _ h => h⟩ hseq ?_ ?_ ?_
  · rintro l D m q x Pv W hpx ⟨hj, hG⟩ hl hD hll hDD hloop
    refine wpIn_mono (hround l m x W hloop hG.2.1 (fun p hp => (hG.1 p hp).1)) ?_
    rintro e a1 W1 hp
    cases e with
    | normal =>
      obtain ⟨⟨o, rfl⟩, hb⟩ := hp
      have hnew : ∀ k o', W.heap[k]? = some o' → (W.alloc o).heap[k]? = some o' := fun k o' h => (Below.heap_alloc W o k (Array.getElem?_eq_some_iff.1 h).1).trans h
      have kk : KeptI n0 Pv W (W.alloc o) := ⟨(Below.refl n0 W).alloc hG.2.1 _, fun k _ hk => Below.heap_alloc W o k hk⟩
      refine ⟨kk, fun W2 hi hsame hsz hl2 => ?_⟩
      have i12 : Its Pv Pv W W2 := (Its.of_below ((Below.refl _ W).alloc (Nat.le_refl _) _)).trans hi
      have hj2 := aJ _ _ _ W W2 hj (i12.widen (R := Po))
      have hG2 := aG hG i12
      refine wpIn_mono (hb W2 hsame hl2 (fun e W' => KeptI n0 (fun k => Pv k ∨ Po k) W2 W' ∧ ((e = .returned (.bool true) ∧ J (pre ++ q ++ [x]) (fun k => Pv k ∨ Po k) W') ∨ (e = .returned (.bool false) ∧ Jx (pre ++ q ++ [x]) (fun k => Pv k ∨ Po k) W')))
        (fun e W' h => h.2.elim (fun h => ⟨_, h.1⟩) (fun h => ⟨_, h.1⟩)) (fun m' => hY m' _ x _ W2 (by rw [List.append_assoc]; exact hS _ hpx) hj2) (fun e W' h => h.2.elim (fun h => ⟨_, h.1⟩) (fun h => ⟨_, h.1⟩))) ?_
      have gk : ∀ W', KeptI n0 (fun k => Pv k ∨ Po k) W2 W' → KeptI n0 Pv W2 W' ∧ G Pv W' := fun W' hk => ⟨hk.mono (fun _ h => .inl h), fun p hp => ⟨?_, (hG2.1 p hp).2⟩, Nat.le_trans hG2.2.1 hk.below.size, hG2.2.2⟩
      · rintro e a3 W' hp
        cases e with
        | normal =>
          obtain ⟨hk, (⟨_, hj'⟩ | ⟨h, _⟩)⟩ := hp
          · exact ⟨(gk W' hk).1, by rw [← List.append_assoc]; exact hj', (gk W' hk).2⟩
          · cases h
        | ret =>
          obtain ⟨hk, (⟨h, _⟩ | ⟨_, hj'⟩)⟩ := hp
          · cases h
          · exact ⟨(gk W' hk).1, rfl, by rw [← List.append_assoc]; exact hj', (gk W' hk).2⟩
        | exit id => exact hp.elim
        | goto t => exact hp.elim
        | panic ch => exact hp.elim
        | outgrown => exact hp.elim
      · have h1 := (hG2.1 p hp).1
        rcases (hL p hp).2.1 with hlt | hpo
        · exact (hk.below.block _ hlt).trans h1
        · exact (hk.same _ (.inr hpo) (Array.getElem?_eq_some_iff.1 h1).1).trans h1
    | exit id => exact hp.elim
    | goto t => exact hp.elim
    | ret => exact hp.elim
    | panic ch => exact hp.elim
    | outgrown => exact hp.elim
  · rintro D Pv W hD hP ⟨hj, hG⟩ hb hd
    exact hdone D Pv W hD hG.2.2 hP hG.1 hj hb hd
  · rintro D c q Pv W hD hP hq ⟨rfl, hj, hG⟩ hb hd
    exact hstop D q Pv W hD hP hG.1 hq hj hb hd
end Go.IterLaw

/- Plain laws on slices.BinarySearch of whole numbers. -/
namespace Go.Proofs.YtaeaacdjiijooaaDoor.Pr
open Go.RowKit Go.Proofs.YtaeaacdjiijooaaDoorW.PrintWords Go.Proofs.YtaeaacdjiijooaaDoorW.PrintLast Go.Proofs.YtaeaacdjiijooaaDoorW.PrintMore

theorem less_is (x y : Int) : cmp_Less_uint64.f x y = some (decide (x < y)) := by
  simp [cmp_Less_uint64.f, cmp_isNaN_uint64.f]
theorem nan_is (x : Int) : slices_isNaN_uint64.f x = some false := by simp [slices_isNaN_uint64.f]

theorem bin_loop (ps : List Int) (t : Int) (p : Nat) (hp : ∀ i : Nat, i < ps.length → (rd ps (i : Int) < t ↔ i < p)) (hl : ps.length < 4611686018427387904) :
    ∀ (k lo hi : Nat), lo ≤ p → p ≤ hi → hi ≤ ps.length → hi - lo < k → ∃ b, slices_BinarySearch_uint64_uint64.l0 k ps t (ps.length : Int) (lo : Int) (hi : Int) = some ((p : Int), b) := by
  intro k
  induction k with
  | zero => intro lo hi _ _ _ h; omega
  | succ k ih =>
    intro lo hi h1 h2 h3 h4
    unfold slices_BinarySearch_uint64_uint64.l0
    by_cases hlt : lo < hi
    · have hm : wrap64 (IntKind.u64.wrap (wrap64 ((lo : Int) + (hi : Int))) / 2) = (((lo + hi) / 2 : Nat) : Int) := by
        have h0 : wrap64 ((lo : Int) + (hi : Int)) = ((lo + hi : Nat) : Int) := by rw [IntWalk.wrap64_in _ (by omega)]; push_cast; rfl
        have h1 : IntKind.u64.wrap ((lo + hi : Nat) : Int) = ((lo + hi : Nat) : Int) := IntWalk.u64_in _ (by omega)
        have h2 : (((lo + hi : Nat) : Int)) / 2 = (((lo + hi) / 2 : Nat) : Int) := by omega
        rw [h0, h1, h2, IntWalk.wrap64_in _ (by omega)]
      have hm1 : wrap64 ((((lo + hi) / 2 : Nat) : Int) + 1) = (((lo + hi) / 2 + 1 : Nat) : Int) := by
        rw [IntWalk.wrap64_in _ (by omega)]; push_cast; rfl
      rw [if_pos (show (lo : Int) < (hi : Int) by omega), hm, if_pos (show (0 : Int) ≤ (((lo + hi) / 2 : Nat) : Int) by omega), if_pos (show (((lo + hi) / 2 : Nat) : Int) < (ps.length : Int) by omega), less_is, Option.bind_some]
      have hq := hp ((lo + hi) / 2) (by omega)
      by_cases hc : rd ps (((lo + hi) / 2 : Nat) : Int) < t
      · rw [if_pos (by simpa using hc), hm1]
        have := hq.1 hc
        exact ih _ _ (by omega) h2 h3 (by omega)
      · rw [if_neg (by simpa using hc)]
        have : ¬ (lo + hi) / 2 < p := fun h => hc (hq.2 h)
        exact ih _ _ h1 (by omega) (by omega) (by omega)
    · have e1 : lo = p := by omega
      subst e1
      rw [if_neg (show ¬ (lo : Int) < (hi : Int) by omega)]
      by_cases hn : lo < ps.length
      · rw [if_pos (show (lo : Int) < (ps.length : Int) by omega), if_pos (show (0 : Int) ≤ (lo : Int) by omega), if_pos (show (lo : Int) < (ps.length : Int) by omega)]
        by_cases he : rd ps (lo : Int) = t
        · rw [if_pos he]; exact ⟨_, rfl⟩
        · rw [if_neg he, nan_is, Option.bind_some, if_neg (by simp)]; exact ⟨_, rfl⟩
      · rw [if_neg (show ¬ (lo : Int) < (ps.length : Int) by omega)]; exact ⟨_, rfl⟩

theorem takeWhile_lt (t : Int) : ∀ ps : List Int, ps.Pairwise (· < ·) → ∀ i : Nat, i < ps.length → (rd ps (i : Int) < t ↔ i < (ps.takeWhile (· < t)).length)
  | [], _, i, h => by simp at h
  | x :: xs, hs, i, h => by
    obtain ⟨h1, h2⟩ := List.pairwise_cons.1 hs
    by_cases hx : x < t
    · rw [List.takeWhile_cons_of_pos (by simpa using hx)]
      cases i with
      | zero => simp [rd, hx]
      | succ i =>
        have := takeWhile_lt t xs h2 i (by simpa using h)
        have e : rd (x :: xs) ((i + 1 : Nat) : Int) = rd xs (i : Int) := by simp only [rd, Int.toNat_natCast, List.getD_cons_succ]
        rw [e, this, List.length_cons]
        omega
    · rw [List.takeWhile_cons_of_neg (by simpa using hx)]
      simp only [List.length_nil, Nat.not_lt_zero, iff_false]
      cases i with
      | zero => simpa [rd] using hx
      | succ i =>
        have hi : i < xs.length := by simpa using h
        have : xs[i] ∈ xs := List.getElem_mem hi
        have := h1 _ this
        have e : rd (x :: xs) ((i + 1 : Nat) : Int) = xs[i] := by simp [rd, List.getD_eq_getElem?_getD, hi]
        rw [e]
        omega

theorem bin_is (ps : List Int) (t : Int) (hs : ps.Pairwise (· < ·)) (hl : ps.length < 4611686018427387904) :
    ∃ b, slices_BinarySearch_uint64_uint64.f (ps.length + 1) ps t = some (((ps.takeWhile (· < t)).length : Int), b) := by
  have h2 : (ps.takeWhile (· < t)).length ≤ ps.length := (List.takeWhile_sublist _).length_le
  exact bin_loop ps t _ (takeWhile_lt t ps hs) hl _ 0 ps.length (Nat.zero_le _) h2 (Nat.le_refl _) (by omega)
end Go.Proofs.YtaeaacdjiijooaaDoor.Pr

/- append(v, x) of the print's rows, inside a fence (a round of a range over a function). -/
namespace Go.IterLaw
open Go Go.RowKit Go.Proofs.YtaeaacdjiijooaaDoorW.PrintWords Go.Proofs.YtaeaacdjiijooaaDoorW.PrintLast Go.Proofs.YtaeaacdjiijooaaDoorW.PrintMore

theorem wpListIn_append_own_at {F : Fence} {n : Nat} {P : Program} (w : World) {ops : Array Oper} {rest : List Oper} {o : Oper} {a : Act} {Q : Exit → Act → World → Prop}
    (hg : o.guard = none) (s x : Operand) (t : TypeId) (hop : o.op = Op.call { callee := Callee.builtin Builtin.append, args := #[s, x], argTypes := #[t, t] })
    (base : Nat) (e : TypeId) (i : TypeInfo) (z : Value) (size bytes : Nat) (h1 : P.underlying t = some (.slice e)) (h2 : P.info? e = some i) (h3 : i.zero = some z) (h4 : i.size = size) (h5 : i.bytes = bytes) (h6 : z.cells.size = size) (h7 : 0 < size)
    (v : Value) (k : Nat) (xs : List Value) (hs : a.eval s = v) (hown : w.ownsRow base e size v k xs) (ad : Addr) (m c : Nat) (news : List Value) (hx : a.eval x = .slice (some ad) m c) (hn : news.length = m * size)
    (hc : ∀ j u, news[j]? = some u → w.cell? (ad.add j) = some u) (h1c : ∀ u ∈ news, u.oneCell' = true) (b1 : k + m ≤ maxLen) (b2 : (k + m) * bytes ≤ 140737488355328) (b3 : base ≤ w.heap.size)
    (hK : ∀ v' w', w'.ownsRow base e size v' (k + m) (xs ++ news) → w.grownBy w' v.ownBlock → (v'.ownBlock = v.ownBlock ∨ v'.ownBlock = some w.heap.size) → wpListIn F n P ops Q rest (a.put o.dst v') w') :
    wpListIn F n P ops Q (o :: rest) a w := by
  refine wpListIn_plain hg fun K hK' => ?_
  obtain ⟨v', w', hrun, r1, r2, _, r3⟩ := run_append_own_at (P := P) (w := w) base t o.type e i z size bytes h1 h2 h3 h4 h5 h6 h7 v k xs hown ad m c news hn hc h1c b1 b2 b3
  unfold Oper.wpIn
  refine ⟨?_, ?_⟩
  · simp [Oper.about, hop, resolve, Target.leads, Sem.run_pure]
  · rw [Oper.semAt_plain F _ _ (by rw [hop]; intro c hc'; cases hc')]
    simp [execOp, hop, resolve, invoke, builtin, hs, hx, hrun, Result.andThen]
    exact hK' _ _ (hK v' w' r1 r2 r3)

theorem R_appendIn {F : Fence} {nn : Nat} {P : Program} {ops : Array Oper} {rest : List Oper} {o : Oper} {a : Act} {Q : Exit → Act → World → Prop} {α : Type} (d : Kd α) {W : World} (base : Nat) (hgd : o.guard = none) (s x : Operand) (t e : TypeId) (z : Value) (bytes : Nat)
    (ho : o.op = .call { callee := .builtin .append, args := #[s, x], argTypes := #[t, t] })
    (ht : P.underlying t = some (.slice e)) (hinfo : (P.info? e).map (fun i => (i.zero, i.size, i.bytes)) = some (some z, d.sz, bytes)) (hz : z.cells.size = d.sz) (hs0 : 0 < d.sz) (hb0 : 0 < bytes)
    (v : Value) (xs : List α) (p : α) (cs : List Value) (ok okp : Nat → Prop) (hs : a.eval s = v) (hx : a.eval x = .slice (some ⟨W.heap.size, 0, none⟩) 1 1) (hp : d.M W base okp p cs) (hokp : ∀ k, okp k → ok k ∧ some k ≠ v.ownBlock) (hfresh : ∀ k, W.heap.size ≤ k → ok k)
    (HO : d.R e W base ok v xs) (hbase : base ≤ W.heap.size) (hl : (xs.length + 1) * bytes ≤ 140737488355328)
    (h : ∀ v1 w1, d.R e w1 base ok v1 (xs ++ [p]) → W.grownBy w1 v.ownBlock → wpListIn F nn P ops Q rest (a.put o.dst v1) w1) :
    wpListIn F nn P ops Q (o :: rest) a (W.alloc (.cells cs.toArray e)) := by
  obtain ⟨h0, inner, hown, hr⟩ := HO
  obtain ⟨i0, hi, hzz⟩ := Option.map_eq_some_iff.1 hinfo
  simp only [Prod.mk.injEq] at hzz
  obtain ⟨hz0, hz1, hz2⟩ := hzz
  have hlen : xs.length + 1 ≤ 140737488355328 := Nat.le_trans (Nat.le_mul_of_pos_right _ hb0) hl
  have hys : cs.length = d.sz := d.K_len (d.K_of_M hp)
  refine wpListIn_append_own_at (W.alloc (.cells cs.toArray e)) hgd s x t ho base e i0 z d.sz bytes ht hi hz0 hz1 hz2 hz hs0 v xs.length inner hs (hown.alloc _) ⟨W.heap.size, 0, none⟩ 1 1 cs hx (by rw [hys]; simp)
    (by simpa using World.news_of_block (cs := cs.toArray) (t := e) (fr := (0, 0)) (heap_alloc_new W (.cells cs.toArray e))) (d.K_one (d.K_of_M hp)) (by simp only [maxLen]; omega) hl (by simp; omega) ?_
  intro v1 w1 hown1 hg hat
  have hg1 : W.grownBy w1 v.ownBlock := World.grownBy.trans (World.grownBy_alloc W _ _) hg
  refine h v1 w1 (Kd.R_appended h0 hr hp hokp hfresh hown1 hg1 ?_) hg1
  rcases hat with hat | hat
  · exact .inl hat
  · exact .inr ⟨_, hat, by simp⟩
end Go.IterLaw

/- The contract of cover.Around: an iterator that ranges over itself. -/
namespace Go.Proofs.YtaeaacdjiijooaaDoor.Pr
open Go.RowKit Go.Proofs.YtaeaacdjiijooaaDoorW.PrintWords Go.Proofs.YtaeaacdjiijooaaDoorW.PrintLast Go.Proofs.YtaeaacdjiijooaaDoorW.PrintMore Go.IterLaw
set_option linter.unusedVariables false
set_option linter.unusedSimpArgs false
attribute [local go_sem] Oper.semAt_some

theorem calls_marks {P : Program} {f : FuncId} {fn : Func} {c : Code} {args : Array Value} {w : World} {R : Ending → World → Prop}
    (hf : P.funcs[f]? = some fn) (hb : fn.body = some c) (h : c.wp P (bodyPostM Fence.wide 0 P fn R) { tmps := args ++ Array.replicate (fn.ntmps - args.size) undef, defers := [] } w) : Calls P f args w R :=
  callsIn_wide.1 (callsIn_of_wp_marks (n := 0) hf hb trivial (wpIn_wide.2 h))

abbrev S_ := S33
def encB (x : S_) : Array Value := #[.agg #[.int .i64 x.f0, .int .u64 x.f1]]

/-- What is around positions within the block (level, place). -/
def aroundL : Nat → Int → List Int → List S_
  | 0, b, [] => [⟨0, b⟩]
  | n + 1, b, [] => [⟨(n + 1 : Nat), b⟩]
  | 0, _, _ :: _ => []
  | n + 1, b, x :: xs => aroundL n (2 * b) ((x :: xs).takeWhile (· < (2 * b + 1) * 2 ^ n)) ++ aroundL n (2 * b + 1) ((x :: xs).dropWhile (· < (2 * b + 1) * 2 ^ n))

theorem putObj_below {n0 D : Nat} {V : World} {o : Obj} (h : n0 ≤ D) : Below n0 V (V.putObj D o) := ⟨rfl, rfl, rfl, by simp, fun k hk => World.putObj_heap_other (by omega)⟩
theorem zip1 (t : Array Value) (p : Tmp) (v : Value) : (#[p].zip #[v]).foldl (fun t (p, v) => t.setIfInBounds p v) t = t.setIfInBounds p v := by simp

theorem cell_alloc {W : World} {B : Nat} {o : Obj} (h : W.heap[B]? = some o) (x : Obj) (j : Nat) : (W.alloc x).cell? ⟨B, j, none⟩ = W.cell? ⟨B, j, none⟩ := by
  have := Below.heap_alloc W x B (Array.getElem?_eq_some_iff.1 h).1
  simp only [World.cell?, this]
theorem around_any (n b : Int) (A : Option Addr) (len c : Nat) (w : World) :
    Calls Tryd.prog 26 #[.agg #[.int .i64 n, .int .u64 b], .slice A len c] w fun e w' =>
      e = .returned (.func (.func 31) #[] #[.pointer (some ⟨w.heap.size + 1, 0, none⟩), .pointer (some ⟨w.heap.size, 0, none⟩)]) ∧
      w' = (w.alloc (.cells #[.int .i64 n, .int .u64 b] 33)).alloc (.cells #[.slice A len c] 36) := by
  go_enter Tryd.func26, Tryd.ntmps26
  go_wp2
  go_ret
  exact ⟨rfl, rfl⟩

set_option maxRecDepth 100000 in
set_option maxHeartbeats 2000000 in
theorem around1_nil (n b : Int) (l n0 m : Nat) (J Jx : List S_ → (Nat → Prop) → World → Prop) (aJ : AbidesI J) (S : List S_ → Prop) (hY : RoundI Tryd.prog l encB n0 S J Jx) (pre : List S_) (hS : ∀ q, q <+: [(⟨n, b⟩ : S_)] → S (pre ++ q)) (Pv : Nat → Prop) (W : World) (B1 B2 c : Nat) (A : Option Addr) (hJ : J pre Pv W) (hn0 : n0 ≤ W.heap.size)
    (h2 : W.heap[B2]? = some (.cells #[.int .i64 n, .int .u64 b] 33 (0, 0))) (h1 : W.heap[B1]? = some (.cells #[.slice A 0 c] 36 (0, 0))) :
    CallsIn Fence.wide m Tryd.prog 31 #[.func (.yield l) #[] #[], .pointer (some ⟨B1, 0, none⟩), .pointer (some ⟨B2, 0, none⟩)] W (EndsI n0 J Jx pre [⟨n, b⟩] Pv W) := by
  have c1 : W.cell? ⟨B1, 0, none⟩ = some (.slice A 0 c) := (blk_cell h1 0).trans rfl
  have c20 : W.cell? ⟨B2, 0, none⟩ = some (.int .i64 n) := (blk_cell h2 0).trans rfl
  have c21 : W.cell? ⟨B2, 1, none⟩ = some (.int .u64 b) := (blk_cell h2 1).trans rfl
  have d1 := fun x => (cell_alloc h1 x 0).trans c1
  have d20 := fun x => (cell_alloc h2 x 0).trans c20
  have d21 := fun x => (cell_alloc h2 x 1).trans c21
  refine callsIn_of_wp Tryd.func31 rfl trivial ?_
  simp only [Tryd.ntmps31, List.size_toArray, List.length_cons, List.length_nil, Nat.reduceAdd, Nat.reduceSub, Array.replicate_succ, Array.replicate_zero, List.push_toArray, List.append_toArray, List.nil_append, List.cons_append]
  have hJ1 := aJ pre Pv _ W _ hJ (Its.alloc Pv W (.cells #[.func (.yield l) #[] #[]] 55))
  obtain ⟨fn, tmps, assign, body, hy, hR⟩ := hY (m - 1) pre ⟨n, b⟩ _ _ (hS _ (List.prefix_refl _)) hJ1
  dsimp only [encB] at hy
  gi_wp2
  refine ⟨room1, hR.mono ?_⟩
  rintro e W' ⟨hk, hh⟩
  have hb : Below n0 W W' := ((Below.refl n0 W).alloc hn0 _).trans hk.below
  obtain ⟨v, rfl⟩ : ∃ v, e = .returned v := by rcases hh with ⟨rfl, _⟩ | ⟨rfl, _⟩ <;> exact ⟨_, rfl⟩
  have fin : EndsI n0 J Jx pre [⟨n, b⟩] Pv W (.returned (.tuple #[])) W' := by
    refine ⟨⟨_, rfl⟩, (fun k => Pv k ∨ k = W.heap.size), fun _ h => .inl h, hb, ?_⟩
    rcases hh with ⟨_, h⟩ | ⟨_, h⟩
    · exact .inl h
    · exact .inr ⟨[⟨n, b⟩], List.prefix_refl _, h⟩
  gi_wp2
  refine bodyPost_ret (results_none rfl _ _ _) rfl ?_
  exact fin

set_option maxRecDepth 100000 in
set_option maxHeartbeats 2000000 in
theorem around1_zero (b : Int) (l n0 m : Nat) (J Jx : List S_ → (Nat → Prop) → World → Prop) (aJ : AbidesI J) (pre : List S_) (Pv : Nat → Prop) (W : World) (B1 B2 c len : Nat) (A : Option Addr) (hJ : J pre Pv W) (hn0 : n0 ≤ W.heap.size) (hlen : 0 < len) (hlen2 : len ≤ 9223372036854775807)
    (h2 : W.heap[B2]? = some (.cells #[.int .i64 0, .int .u64 b] 33 (0, 0))) (h1 : W.heap[B1]? = some (.cells #[.slice A len c] 36 (0, 0))) :
    CallsIn Fence.wide m Tryd.prog 31 #[.func (.yield l) #[] #[], .pointer (some ⟨B1, 0, none⟩), .pointer (some ⟨B2, 0, none⟩)] W (EndsI n0 J Jx pre [] Pv W) := by
  have d1 := fun x => (cell_alloc h1 x 0).trans ((blk_cell h1 0).trans rfl)
  have d20 := fun x => (cell_alloc h2 x 0).trans ((blk_cell h2 0).trans rfl)
  have d21 := fun x => (cell_alloc h2 x 1).trans ((blk_cell h2 1).trans rfl)
  have hl0 : ((len : Int) == 0) = false := by rw [beq_eq_false_iff_ne]; omega
  have fin : EndsI n0 J Jx pre [] Pv W (.returned (.tuple #[])) (W.alloc (.cells #[.func (.yield l) #[] #[]] 55)) :=
    ⟨⟨_, rfl⟩, (fun k => Pv k ∨ k = W.heap.size), fun _ h => .inl h, (Below.refl n0 W).alloc hn0 _, .inl (by rw [List.append_nil]; exact aJ pre Pv _ W _ hJ (Its.alloc Pv W _))⟩
  refine callsIn_wide.2 ?_
  go_enter Tryd.func31, Tryd.ntmps31
  go_wp2
  refine bodyPost_ret (results_none rfl _ _ _) rfl ?_
  exact fin

theorem mid_wrap (n : Nat) (hn : n < 63) (b : Nat) (hb : (2 * b + 1) * 2 ^ n < 9223372036854775808) :
    IntKind.u64.wrap (IntKind.u64.wrap (IntKind.u64.wrap (2 * (b : Int)) + 1) * 2 ^ n) = (((2 * b + 1) * 2 ^ n : Nat) : Int) := by
  have h1 : 2 * b + 1 ≤ (2 * b + 1) * 2 ^ n := Nat.le_mul_of_pos_right _ (Nat.two_pow_pos n)
  have e1 : IntKind.u64.wrap (2 * (b : Int)) = 2 * (b : Int) := by simp [IntKind.wrap, IntKind.bits, IntKind.signed]; omega
  have e2 : IntKind.u64.wrap (2 * (b : Int) + 1) = 2 * (b : Int) + 1 := by simp [IntKind.wrap, IntKind.bits, IntKind.signed]; omega
  have e3 : (2 * (b : Int) + 1) * 2 ^ n = (((2 * b + 1) * 2 ^ n : Nat) : Int) := by push_cast; rfl
  rw [e1, e2, e3]
  simp [IntKind.wrap, IntKind.bits, IntKind.signed]; omega

theorem index_pair0 (A A2 : Option Addr) (n n2 c c2 : Nat) (V : World) :
    (Instr.index 58 (.agg #[.slice A n c, .slice A2 n2 c2]) (.int .i64 0)).run Tryd.prog V = .ok (.slice A n c) V := by
  simp [Instr.index, asIntOf, run_underlying Tryd.underlying58, Program.elem, part, sizeOf, typeInfo, go_sem]
  rfl
theorem index_pair1 (A A2 : Option Addr) (n n2 c c2 : Nat) (V : World) :
    (Instr.index 58 (.agg #[.slice A n c, .slice A2 n2 c2]) (.int .i64 1)).run Tryd.prog V = .ok (.slice A2 n2 c2) V := by
  simp [Instr.index, asIntOf, run_underlying Tryd.underlying58, Program.elem, part, sizeOf, typeInfo, go_sem]
  rfl
theorem around_any' (n b : Int) (A : Option Addr) (len c : Nat) (w : World) :
    Calls Tryd.prog 26 #[.agg #[.int .i64 n, .int .u64 b], .slice A len c] w fun e w' =>
      e = .returned (.func (.func 31) #[] #[.pointer (some ⟨w.heap.size + 1, 0, none⟩), .pointer (some ⟨w.heap.size, 0, none⟩)]) ∧
      w'.heap[w.heap.size]? = some (.cells #[.int .i64 n, .int .u64 b] 33 (0, 0)) ∧ w'.heap[w.heap.size + 1]? = some (.cells #[.slice A len c] 36 (0, 0)) ∧ w'.heap.size = w.heap.size + 2 ∧ Below w.heap.size w w' := by
  refine (around_any n b A len c w).mono ?_
  rintro e w' ⟨rfl, rfl⟩
  refine ⟨rfl, (Below.heap_alloc _ _ _ (by simp)).trans (World.alloc_heap_new w _), ?_, by simp, ((Below.refl _ w).alloc (Nat.le_refl _) _).alloc (by simp) _⟩
  have := World.alloc_heap_new (w.alloc (.cells #[.int .i64 n, .int .u64 b] 33)) (.cells #[.slice A len c] 36); rwa [World.size_alloc] at this
/-- What a call of the iterator comes to. -/
def Ar (n b : Nat) (ps : List Int) : Prop :=
  ∀ (l n0 m : Nat) (J Jx : List S_ → (Nat → Prop) → World → Prop) (aJ : AbidesI J) (aJx : AbidesI Jx) (S : List S_ → Prop) (hY : RoundI Tryd.prog l encB n0 S J Jx) (pre : List S_) (hS : ∀ q, q <+: aroundL n b ps → S (pre ++ q)) (Pv : Nat → Prop) (W : World) (B1 B2 c : Nat) (A : Option Addr) (hJ : J pre Pv W) (hn0 : n0 ≤ W.heap.size) (hc : ps.length ≤ c)
    (hr : ∀ W', Below n0 W W' → ReadsInt W' .u64 A ps.length ps) (hB2 : B2 < n0 ∨ Pv B2)
    (h2 : W.heap[B2]? = some (.cells #[.int .i64 (n : Int), .int .u64 (b : Int)] 33 (0, 0))) (h1 : W.heap[B1]? = some (.cells #[.slice A ps.length c] 36 (0, 0))),
    CallsIn Fence.wide m Tryd.prog 31 #[.func (.yield l) #[] #[], .pointer (some ⟨B1, 0, none⟩), .pointer (some ⟨B2, 0, none⟩)] W (EndsI n0 J Jx pre (aroundL n b ps) Pv W)

set_option maxRecDepth 100000 in
set_option maxHeartbeats 4000000 in
theorem around1_succ (n : Nat) (hn : n < 63) (b : Nat) (hb : (2 * b + 1) * 2 ^ n < 9223372036854775808) (ps : List Int) (hps : ps ≠ []) (k at_ : Nat) (fnd : Bool) (hat : at_ ≤ ps.length) (hbs : slices_BinarySearch_uint64_uint64.f k ps (((2 * b + 1) * 2 ^ n : Nat) : Int) = some ((at_ : Int), fnd))
    (IH0 : Ar n (2 * b) (ps.take at_)) (IH1 : Ar n (2 * b + 1) (ps.drop at_)) (hal : aroundL (n + 1) b ps = aroundL n (2 * b : Nat) (ps.take at_) ++ aroundL n (2 * b + 1 : Nat) (ps.drop at_)) :
    Ar (n + 1) b ps := by
  intro l n0 m J Jx aJ aJx S hY pre hS Pv W B1 B2 c A hJ hn0 hc hr hB2 h2 h1
  have hr0 : ReadsInt W .u64 A ps.length ps := hr W (Below.refl _ _)
  have hlen2 : ps.length ≤ 9223372036854775807 := hr0.2.1
  have d1 := fun x => (cell_alloc h1 x 0).trans ((blk_cell h1 0).trans rfl)
  have d20 := fun x => (cell_alloc h2 x 0).trans ((blk_cell h2 0).trans rfl)
  have d21 := fun x => (cell_alloc h2 x 1).trans ((blk_cell h2 1).trans rfl)
  have hl0 : ((ps.length : Int) == 0) = false := by rw [beq_eq_false_iff_ne]; have := List.length_pos_iff.2 hps; omega
  have hn1 : (((n + 1 : Nat) : Int) == 0) = false := by rw [beq_eq_false_iff_ne]; omega
  have hn2 : ((n : Int) + 1 == 0) = false := by rw [beq_eq_false_iff_ne]; omega
  obtain ⟨t1, t2, t3⟩ := print_take_int (P := Tryd.prog) (k := .u64) 36 22 Tryd.underlying36 rfl rfl A c ps (at_ : Int) (Int.natCast_nonneg _) (by omega) hc
  obtain ⟨A2, s1, s2, s3⟩ := print_drop_of (P := Tryd.prog) (Value.int .u64) (0 : Int) 36 22 .i64 Tryd.underlying36 rfl rfl A c ps (at_ : Int) (Int.natCast_nonneg _) (by omega) hc
  rw [Int.toNat_natCast] at t1 t2 t3 s1 s2 s3
  obtain ⟨ys, hys⟩ : ∃ ys, ps.take at_ = ys := ⟨_, rfl⟩
  obtain ⟨zs, hzs⟩ : ∃ zs, ps.drop at_ = zs := ⟨_, rfl⟩
  rw [hys] at t1 t2 t3 IH0 hal
  rw [hzs] at s1 s2 s3 IH1 hal
  refine callsIn_wide.2 (calls_marks Tryd.func31 rfl ?_)
  simp only [Tryd.ntmps31, List.size_toArray, List.length_cons, List.length_nil, Nat.reduceAdd, Nat.reduceSub, Array.replicate_succ, Array.replicate_zero, List.push_toArray, List.append_toArray, List.nil_append, List.cons_append]
  go_wp2_with fail
  rw [mid_wrap n hn b hb]
  have HC := Kd.C_of_reads (h1 := fun _ => rfl) (readsInt_of.1 ((hr _ (Below.alloc (Below.refl n0 W) hn0 (.cells #[.func (.yield l) #[] #[]] 55)))))
  refine (slices_BinarySearch_uint64_uint64.calls k A c ps _ _ _ _ HC hc hbs).mono ?_
  rintro e W2 ⟨rfl, nd, rfl⟩
  go_wp2_with fail
  go_quiet (fail)
  rename_i K hK
  obtain ⟨V, hV⟩ : ∃ V, ((W.alloc (.cells #[.func (.yield l) #[] #[]] 55)).drewN nd).drewN nq = V := ⟨_, rfl⟩
  have e2 : V.heap[B2]? = some (.cells #[.int .i64 ((n + 1 : Nat) : Int), .int .u64 (b : Int)] 33 (0, 0)) := by
    rw [← hV, World.heap_drewN, World.heap_drewN]; exact (Below.heap_alloc W _ B2 (Array.getElem?_eq_some_iff.1 h2).1).trans h2
  have e3 : V.heap[W.heap.size]? = some (.cells #[.func (.yield l) #[] #[]] 55 (0, 0)) := by
    rw [← hV, World.heap_drewN, World.heap_drewN]; exact World.alloc_heap_new W _
  have eB : Below n0 W V := by rw [← hV]; exact pw_below_drewN (pw_below_drewN ((Below.refl n0 W).alloc hn0 _) _) _
  have eS : V.heap.size = W.heap.size + 1 := by rw [← hV, World.heap_drewN, World.heap_drewN]; simp
  have eI : Its Pv (fun k => Pv k ∨ k = W.heap.size) W V := by rw [← hV]; exact ((Its.alloc Pv W _).trans (Its.drewN _ _ _)).trans (Its.drewN _ _ _)
  have hJV := aJ pre _ _ W V hJ eI
  rw [hV]
  clear hV
  have c20 : V.cell? ⟨B2, 0, none⟩ = some (.int .i64 ((n + 1 : Nat) : Int)) := (blk_cell e2 0).trans rfl
  have c21 : V.cell? ⟨B2, 1, none⟩ = some (.int .u64 (b : Int)) := (blk_cell e2 1).trans rfl
  have ix0 := fun V => index_pair0 A A2 ys.length zs.length c (c - at_) V
  have ix1 := fun V => index_pair1 A A2 ys.length zs.length c (c - at_) V
  refine hK _ _ ?_
  refine wp_block ?_
  refine wp_loop_rounds 3 ?_
  rw [rounds_succ]
  go_wp2_with fail
  have w0 : IntKind.u64.wrap (IntKind.u64.wrap (2 * (b : Int))) = ((2 * b : Nat) : Int) := by
    have h1 : 2 * b + 1 ≤ (2 * b + 1) * 2 ^ n := Nat.le_mul_of_pos_right _ (Nat.two_pow_pos n)
    simp only [IntKind.wrap_u64]; push_cast; omega
  rw [w0]
  refine (around_any' (n : Int) ((2 * b : Nat) : Int) A ys.length c V).mono ?_
  rintro e V1 ⟨rfl, f2, f1, fS, fB⟩
  have fB' : ∀ k o, V.heap[k]? = some o → V1.heap[k]? = some o := fun k o h => (fB.block k (Array.getElem?_eq_some_iff.1 h).1).trans h
  go_wp2_with fail
  refine wpIn_wide.1 (forward (n := 0) (gf := 31) (lb := #[.pointer (some ⟨V.heap.size + 1, 0, none⟩), .pointer (some ⟨V.heap.size, 0, none⟩)]) ?hg (enters_of Tryd.func31 (by kernel_rfl) rfl) (encs := encB) (fun _ => rfl) (n0 := n0) ?hn0 (xs := aroundL n (2 * b : Nat) ys) (fun k => k = V.heap.size) ?hPv0 aJ aJx hY pre (fun q hq => hS q (by rw [hal]; exact hq.trans (List.prefix_append _ _))) (fun k => Pv k ∨ k = W.heap.size) [(B2, .cells #[.int .i64 ((n + 1 : Nat) : Int), .int .u64 (b : Int)] 33 (0, 0)), (W.heap.size, .cells #[.func (.yield l) #[] #[]] 55 (0, 0))] ?hL ?hJ ?hseq ?hround ?hdone ?hstop)
  case hround =>
    intro l' m' x V2 hl' hn2 hL
    rw [show encB x = #[.agg #[.int .i64 x.f0, .int .u64 x.f1]] from rfl, zip1]
    dsimp only
    clear IH0 IH1 hK
    gi_wp2_with (rw [Oper.semAt_eq _ _ _ (fun c h => by cases h)]; go_simp; try go_bits)
    refine ⟨⟨_, rfl⟩, fun W3 hs hl3 R hv hyR hbR => ?_⟩
    have hlt : l' < V2.heap.size := by obtain ⟨r, hr'⟩ := hl'; exact (Array.getElem?_eq_some_iff.1 hr').1
    have b3 := hL _ (List.mem_cons_of_mem _ (List.mem_singleton.2 rfl))
    have b3' : W3.heap[W.heap.size]? = some (.cells #[.func (.yield l) #[] #[]] 55 (0, 0)) := (hs _ (fun e => by obtain ⟨r, hr'⟩ := hl'; rw [← e, b3] at hr'; cases hr')).trans ((Below.heap_alloc V2 _ _ (Array.getElem?_eq_some_iff.1 b3).1).trans b3)
    have b9 : W3.heap[V2.heap.size]? = some (.cells #[.int .i64 x.f0, .int .u64 x.f1] 33 (0, 0)) := (hs _ (by omega)).trans (World.alloc_heap_new V2 _)
    have k3 : W3.cell? ⟨W.heap.size, 0, none⟩ = some (.func (.yield l) #[] #[]) := (blk_cell b3' 0).trans rfl
    have k9 : W3.cell? ⟨V2.heap.size, 0, none⟩ = some (.int .i64 x.f0) := (blk_cell b9 0).trans rfl
    have k91 : W3.cell? ⟨V2.heap.size, 1, none⟩ = some (.int .u64 x.f1) := (blk_cell b9 1).trans rfl
    obtain ⟨fn, tmps, assign, body, hy, hR⟩ := hyR (m' - 1)
    gi_wp2_with (rw [Oper.semAt_eq _ _ _ (fun c h => by cases h)]; go_simp; try go_bits)
    refine ⟨room1, RoundIn.mono (F := Fence.wide.inRound l') hR ?_⟩
    intro e W4 hRe
    obtain ⟨bb, rfl⟩ := hbR _ _ hRe
    cases bb
    · gi_wp2_with (rw [Oper.semAt_eq _ _ _ (fun c h => by cases h)]; go_simp; try go_bits)
      exact hRe
    · gi_wp2_with (rw [Oper.semAt_eq _ _ _ (fun c h => by cases h)]; go_simp; try go_bits)
      exact hRe
  case hg =>
    simp [Act.eval]
  case hn0 => omega
  case hPv0 => rintro k rfl; omega
  case hL =>
    intro p hp
    have := (Array.getElem?_eq_some_iff.1 e2).1
    rcases List.mem_cons.1 hp with rfl | hp
    · exact ⟨fB' _ _ e2, hB2.imp id .inl, by dsimp only; omega⟩
    · obtain rfl := List.mem_singleton.1 hp
      exact ⟨fB' _ _ e3, .inr (.inr rfl), by dsimp only; omega⟩
  case hJ =>
    exact aJ pre _ _ V V1 hJV ⟨fB.os, fB.tape, fB.output, fB.size, fun k hk _ => fB.block k hk, fun k hk => hk.elim (fun h => .inr (by omega)) .inl, fun k hk => .inr hk⟩
  case hseq =>
    intro m' l' J' Jx' V2 aJ' aJx' hY' hJ' hb2 hs2
    have bV2 : Below n0 W V2 := (eB.trans (fB.mono (by omega))).trans (hb2.mono (by omega))
    exact IH0 l' n0 m' J' Jx' aJ' aJx' _ hY' [] (fun q hq => hq) _ V2 (V.heap.size + 1) V.heap.size c A hJ' (by have := bV2.size; omega) t3 (fun W' h => t2 _ (hr W' (bV2.trans h))) (.inr rfl) ((hb2.block _ (by omega)).trans f2) ((hb2.block _ (by omega)).trans f1)
  case hstop =>
    intro D q Pv1 V3 hD hPD hL3 hq hJ3 hb3 hd3
    gi_wp2
    refine ⟨by simp, .inl ⟨_, _, rfl, run_takeDeferred hd3, ?_⟩⟩
    refine ⟨_, results_none rfl _ _ _, ⟨_, rfl⟩, (fun k => Pv1 k ∨ (Pv k ∨ k = W.heap.size)), fun k h => .inr (.inl h), ((eB.trans (fB.mono (by omega))).trans hb3).trans (putObj_below (by omega)), .inr ⟨q, ?_, aJx _ _ _ _ _ hJ3 (Its.putObj _ (.inl hPD))⟩⟩
    rw [hal]; exact hq.trans (List.prefix_append _ _)
  case hdone =>
  intro D Pv1 V3 hD hs0 hPD hL3 hJ3 hb3 hd3
  have e2' := (hL3 _ (List.mem_cons_self)).1
  have e3' := (hL3 _ (List.mem_cons_of_mem _ (List.mem_singleton.2 rfl))).1
  dsimp only at e2' e3'
  have eB3 : Below n0 W V3 := (eB.trans (fB.mono (by omega))).trans hb3
  have eS3 : V.heap.size + 2 ≤ V3.heap.size := by have := hb3.size; omega
  have c20' : V3.cell? ⟨B2, 0, none⟩ = some (.int .i64 ((n + 1 : Nat) : Int)) := (blk_cell e2' 0).trans rfl
  have c21' : V3.cell? ⟨B2, 1, none⟩ = some (.int .u64 (b : Int)) := (blk_cell e2' 1).trans rfl
  go_wp2_with fail
  try rw [rounds_succ]
  go_wp2_with fail
  have w1 : IntKind.u64.wrap (IntKind.u64.wrap (2 * (b : Int)) + 1) = ((2 * b + 1 : Nat) : Int) := by
    have h1 : 2 * b + 1 ≤ (2 * b + 1) * 2 ^ n := Nat.le_mul_of_pos_right _ (Nat.two_pow_pos n)
    simp only [IntKind.wrap_u64]; push_cast; omega
  rw [w1]
  refine (around_any' (n : Int) ((2 * b + 1 : Nat) : Int) A2 zs.length (c - at_) V3).mono ?_
  rintro e V4 ⟨rfl, g2, g1, gS, gB⟩
  have gB' : ∀ k o, V3.heap[k]? = some o → V4.heap[k]? = some o := fun k o h => (gB.block k (Array.getElem?_eq_some_iff.1 h).1).trans h
  go_wp2_with fail
  refine wpIn_wide.1 (forward (n := 0) (gf := 31) (lb := #[.pointer (some ⟨V3.heap.size + 1, 0, none⟩), .pointer (some ⟨V3.heap.size, 0, none⟩)]) ?hg (enters_of Tryd.func31 (by kernel_rfl) rfl) (encs := encB) (fun _ => rfl) (n0 := n0) ?hn0 (xs := aroundL n (2 * b + 1 : Nat) zs) (fun k => k = V3.heap.size) ?hPv0 aJ aJx hY (pre ++ aroundL n (2 * b : Nat) ys) (fun q hq => by rw [List.append_assoc]; exact hS _ (by rw [hal]; exact (List.prefix_append_right_inj _).2 hq)) (fun k => Pv1 k ∨ (Pv k ∨ k = W.heap.size)) [(D, .deferred (some [])), (B2, .cells #[.int .i64 ((n + 1 : Nat) : Int), .int .u64 (b : Int)] 33 (0, 0)), (W.heap.size, .cells #[.func (.yield l) #[] #[]] 55 (0, 0))] ?hL ?hJ ?hseq ?hround ?hdone ?hstop)
  case hround =>
    intro l' m' x V2 hl' hn2 hL
    rw [show encB x = #[.agg #[.int .i64 x.f0, .int .u64 x.f1]] from rfl, zip1]
    dsimp only
    clear IH0 IH1 hK
    gi_wp2_with (rw [Oper.semAt_eq _ _ _ (fun c h => by cases h)]; go_simp; try go_bits)
    refine ⟨⟨_, rfl⟩, fun W3 hs hl3 R hv hyR hbR => ?_⟩
    have hlt : l' < V2.heap.size := by obtain ⟨r, hr'⟩ := hl'; exact (Array.getElem?_eq_some_iff.1 hr').1
    have b3 := hL _ (List.mem_cons_of_mem _ (List.mem_cons_of_mem _ (List.mem_singleton.2 rfl)))
    have b3' : W3.heap[W.heap.size]? = some (.cells #[.func (.yield l) #[] #[]] 55 (0, 0)) := (hs _ (fun e => by obtain ⟨r, hr'⟩ := hl'; rw [← e, b3] at hr'; cases hr')).trans ((Below.heap_alloc V2 _ _ (Array.getElem?_eq_some_iff.1 b3).1).trans b3)
    have b9 : W3.heap[V2.heap.size]? = some (.cells #[.int .i64 x.f0, .int .u64 x.f1] 33 (0, 0)) := (hs _ (by omega)).trans (World.alloc_heap_new V2 _)
    have k3 : W3.cell? ⟨W.heap.size, 0, none⟩ = some (.func (.yield l) #[] #[]) := (blk_cell b3' 0).trans rfl
    have k9 : W3.cell? ⟨V2.heap.size, 0, none⟩ = some (.int .i64 x.f0) := (blk_cell b9 0).trans rfl
    have k91 : W3.cell? ⟨V2.heap.size, 1, none⟩ = some (.int .u64 x.f1) := (blk_cell b9 1).trans rfl
    obtain ⟨fn, tmps, assign, body, hy, hR⟩ := hyR (m' - 1)
    gi_wp2_with (rw [Oper.semAt_eq _ _ _ (fun c h => by cases h)]; go_simp; try go_bits)
    refine ⟨room1, RoundIn.mono (F := Fence.wide.inRound l') hR ?_⟩
    intro e W4 hRe
    obtain ⟨bb, rfl⟩ := hbR _ _ hRe
    cases bb
    · gi_wp2_with (rw [Oper.semAt_eq _ _ _ (fun c h => by cases h)]; go_simp; try go_bits)
      exact hRe
    · gi_wp2_with (rw [Oper.semAt_eq _ _ _ (fun c h => by cases h)]; go_simp; try go_bits)
      exact hRe
  case hg =>
    simp [Act.eval]
  case hn0 => omega
  case hPv0 => rintro k rfl; omega
  case hL =>
    intro p hp
    have := (Array.getElem?_eq_some_iff.1 e2').1
    have := (Array.getElem?_eq_some_iff.1 e3').1
    have := (Array.getElem?_eq_some_iff.1 hd3).1
    rcases List.mem_cons.1 hp with rfl | hp
    · exact ⟨gB' _ _ hd3, .inr (.inl hPD), by dsimp only; omega⟩
    rcases List.mem_cons.1 hp with rfl | hp
    · exact ⟨gB' _ _ e2', hB2.imp id (fun h => .inr (.inl h)), by dsimp only; omega⟩
    · obtain rfl := List.mem_singleton.1 hp
      exact ⟨gB' _ _ e3', .inr (.inr (.inr rfl)), by dsimp only; omega⟩
  case hJ =>
    exact aJ _ _ _ V3 V4 hJ3 ⟨gB.os, gB.tape, gB.output, gB.size, fun k hk _ => gB.block k hk, fun k hk => hk.elim (fun h => .inr (by omega)) .inl, fun k hk => .inr hk⟩
  case hseq =>
    intro m' l' J' Jx' V2 aJ' aJx' hY' hJ' hb2 hs2
    have bV2 : Below n0 W V2 := (eB3.trans (gB.mono (by omega))).trans (hb2.mono (by omega))
    exact IH1 l' n0 m' J' Jx' aJ' aJx' _ hY' [] (fun q hq => hq) _ V2 (V3.heap.size + 1) V3.heap.size (c - at_) A2 hJ' (by have := bV2.size; omega) s3 (fun W' h => readsInt_of.2 (s2 _ (readsInt_of.1 (hr W' (bV2.trans h))))) (.inr rfl) ((hb2.block _ (by omega)).trans g2) ((hb2.block _ (by omega)).trans g1)
  case hstop =>
    intro D2 q Pv2 V5 hD2 hPD2 hL5 hq hJ5 hb5 hd5
    have hd5' := (hL5 _ (List.mem_cons_self)).1
    dsimp only at hd5'
    have hDD : D < V3.heap.size := (Array.getElem?_eq_some_iff.1 hd3).1
    gi_wp2
    refine ⟨by simp, .inl ⟨_, _, rfl, run_takeDeferred hd5, ?_⟩⟩
    refine ⟨by simp, .inl ⟨_, _, rfl, run_takeDeferred (ds := []) ((World.putObj_heap_other (by omega)).trans hd5'), ?_⟩⟩
    refine ⟨_, results_none rfl _ _ _, ⟨_, rfl⟩, (fun k => Pv2 k ∨ (Pv1 k ∨ (Pv k ∨ k = W.heap.size))), fun k h => .inr (.inr (.inl h)), (((eB3.trans (gB.mono (by omega))).trans hb5).trans (putObj_below (by omega))).trans (putObj_below (by omega)), .inr ⟨aroundL n (2 * b : Nat) ys ++ q, ?_, ?_⟩⟩
    · rw [hal]; exact (List.prefix_append_right_inj _).2 hq
    · rw [← List.append_assoc]; exact aJx _ _ _ _ _ hJ5 ((Its.putObj _ (.inl hPD2)).trans (Its.putObj _ (.inr (.inl hPD))))
  case hdone =>
  intro D2 Pv2 V5 hD2 hs2 hPD2 hL5 hJ5 hb5 hd5
  have hd5' := (hL5 _ (List.mem_cons_self)).1
  dsimp only at hd5'
  have hDD : D < V3.heap.size := (Array.getElem?_eq_some_iff.1 hd3).1
  go_wp2_with fail
  try rw [rounds_succ]
  go_wp2_with fail
  refine ⟨by simp, .inl ⟨_, _, rfl, run_takeDeferred hd5, ?_⟩⟩
  refine ⟨by simp, .inl ⟨_, _, rfl, run_takeDeferred (ds := []) ((World.putObj_heap_other (by omega)).trans hd5'), ?_⟩⟩
  refine ⟨_, results_none rfl _ _ _, ⟨_, rfl⟩, (fun k => Pv2 k ∨ (Pv1 k ∨ (Pv k ∨ k = W.heap.size))), fun k h => .inr (.inr (.inl h)), (((eB3.trans (gB.mono (by omega))).trans hb5).trans (putObj_below (by omega))).trans (putObj_below (by omega)), .inl ?_⟩
  rw [hal, ← List.append_assoc]; exact aJ _ _ _ _ _ hJ5 ((Its.putObj _ (.inl hPD2)).trans (Its.putObj _ (.inr (.inl hPD))))
end Go.Proofs.YtaeaacdjiijooaaDoor.Pr

/- The contract of cover.Around. -/
namespace Go.Proofs.YtaeaacdjiijooaaDoor.Pr
open Go.RowKit Go.Proofs.YtaeaacdjiijooaaDoorW.PrintWords Go.Proofs.YtaeaacdjiijooaaDoorW.PrintLast Go.Proofs.YtaeaacdjiijooaaDoorW.PrintMore Go.IterLaw
set_option linter.unusedVariables false
set_option linter.unusedSimpArgs false
attribute [local go_sem] Oper.semAt_some

theorem ar_all : ∀ (n b : Nat) (ps : List Int), n ≤ 63 → (b + 1) * 2 ^ n ≤ 9223372036854775808 → ps.Pairwise (· < ·) → ps.length < 4611686018427387904 → Ar n b ps := by
  intro n
  induction n with
  | zero =>
    intro b ps _ hb hs hl
    cases ps with
    | nil =>
      intro l n0 m J Jx aJ aJx S hY pre hS Pv W B1 B2 c A hJ hn0 hc hr hB2 h2 h1
      exact around1_nil _ _ l n0 m J Jx aJ S hY pre hS Pv W B1 B2 c A hJ hn0 h2 h1
    | cons x xs =>
      intro l n0 m J Jx aJ aJx S hY pre hS Pv W B1 B2 c A hJ hn0 hc hr hB2 h2 h1
      exact around1_zero _ l n0 m J Jx aJ pre Pv W B1 B2 c (x :: xs).length A hJ hn0 (by simp) (by omega) h2 h1
  | succ n ih =>
    intro b ps hn hb hs hl
    cases ps with
    | nil =>
      intro l n0 m J Jx aJ aJx S hY pre hS Pv W B1 B2 c A hJ hn0 hc hr hB2 h2 h1
      exact around1_nil _ _ l n0 m J Jx aJ S hY pre hS Pv W B1 B2 c A hJ hn0 h2 h1
    | cons x xs =>
      have hp : 2 ^ (n + 1) = 2 * 2 ^ n := by rw [Nat.pow_succ]; omega
      have e1 : (b + 1) * 2 ^ (n + 1) = (2 * b + 1) * 2 ^ n + 2 ^ n := by rw [hp, ← Nat.mul_assoc, show (b + 1) * 2 = (2 * b + 1) + 1 by omega, Nat.add_mul (2 * b + 1), Nat.one_mul]
      have hpos := Nat.two_pow_pos n
      obtain ⟨fnd, hf⟩ := bin_is (x :: xs) (((2 * b + 1) * 2 ^ n : Nat) : Int) hs hl
      obtain ⟨q, hq⟩ : ∃ q : Int → Bool, (fun y => decide (y < (((2 * b + 1) * 2 ^ n : Nat) : Int))) = q := ⟨_, rfl⟩
      rw [hq] at hf
      have ta : (x :: xs).take ((x :: xs).takeWhile q).length = (x :: xs).takeWhile q := by
        exact (List.prefix_iff_eq_take.1 (List.takeWhile_prefix q)).symm
      have da : (x :: xs).drop ((x :: xs).takeWhile q).length = (x :: xs).dropWhile q := by
        have h := List.takeWhile_append_dropWhile (p := q) (l := x :: xs)
        have h2 := List.take_append_drop ((x :: xs).takeWhile q).length (x :: xs)
        rw [ta] at h2
        exact List.append_cancel_left (h2.trans h.symm)
      refine around1_succ n (by omega) b (by omega) (x :: xs) (by simp) _ _ fnd (List.takeWhile_sublist q).length_le hf ?_ ?_ ?_
      · rw [ta]
        have sl := List.takeWhile_sublist (l := x :: xs) q
        refine ih _ _ (by omega) ?_ (hs.sublist sl) (by have := sl.length_le; omega)
        omega
      · rw [da]
        have sl := List.dropWhile_sublist (l := x :: xs) q
        refine ih _ _ (by omega) ?_ (hs.sublist sl) (by have := sl.length_le; omega)
        have : (2 * b + 1 + 1) * 2 ^ n = (2 * b + 1) * 2 ^ n + 2 ^ n := by rw [Nat.add_mul (2 * b + 1)]; omega
        omega
      · rw [ta, da, ← hq]
        simp only [aroundL]
        push_cast
        rfl

set_option maxRecDepth 100000 in
set_option maxHeartbeats 4000000 in
theorem append_seq (n b : Nat) (ps : List Int) (hA : Ar n b ps) (A : Option Addr) (c B1 B2 : Nat) (W : World) (hc : ps.length ≤ c) (hr : Kd.C (Kd.int .u64) W A ps.length ps) (hlen : (aroundL n b ps).length < 4294967296)
    (h2 : W.heap[B2]? = some (.cells #[.int .i64 (n : Int), .int .u64 (b : Int)] 33 (0, 0))) (h1 : W.heap[B1]? = some (.cells #[.slice A ps.length c] 36 (0, 0))) :
    Calls Tryd.prog 30 #[.slice none 0 0, .func (.func 31) #[] #[.pointer (some ⟨B1, 0, none⟩), .pointer (some ⟨B2, 0, none⟩)]] W fun e W' => ∃ v0_ : Value, e = .returned v0_ ∧ Kd.R k33 33 W' W.heap.size (fun _ => True) v0_ (aroundL n b ps) ∧ Below W.heap.size W W' := by
  refine calls_marks Tryd.func30 rfl ?_
  simp only [Tryd.ntmps30, List.size_toArray, List.length_cons, List.length_nil, Nat.reduceAdd, Nat.reduceSub, Array.replicate_succ, Array.replicate_zero, List.push_toArray, List.append_toArray, List.nil_append, List.cons_append]
  obtain ⟨n0, hn0⟩ : ∃ n0, W.heap.size = n0 := ⟨_, rfl⟩
  rw [hn0]
  go_wp2_with fail
  obtain ⟨V0, hV0⟩ : ∃ V, W.alloc (.cells #[.slice none 0 0] 23) = V := ⟨_, rfl⟩
  have a0 : V0.heap[n0]? = some (.cells #[.slice none 0 0] 23 (0, 0)) := by rw [← hV0, ← hn0]; exact World.alloc_heap_new W _
  have aB : Below n0 W V0 := by rw [← hV0, ← hn0]; exact (Below.refl _ W).alloc (Nat.le_refl _) _
  have aS : V0.heap.size = n0 + 1 := by rw [← hV0, ← hn0]; simp
  rw [hV0]
  let I : List S_ → (Nat → Prop) → World → Prop := fun q Pv V => (∀ k, Pv k → k < V.heap.size) ∧ ¬ Pv n0 ∧ ∃ v, V.heap[n0]? = some (.cells #[v] 23 (0, 0)) ∧ Kd.R k33 33 V n0 (fun k => ¬ Pv k) v q
  have aI : AbidesI I := fun q Pv Pv' V V' h i => by
    obtain ⟨b1, b2, v, b3, b4⟩ := h
    have hlt : n0 < V.heap.size := (Array.getElem?_eq_some_iff.1 b3).1
    refine ⟨fun k hk => (i.own k hk).elim (fun h => Nat.lt_of_lt_of_le (b1 k h) i.size) And.right, fun hk => (i.own _ hk).elim b2 (fun e => by omega), v, (i.block _ hlt b2).trans b3, ?_⟩
    exact Kd.R_mono (Kd.R_step (Kd.R_bound b4) (fun k hk hlt => i.block k hlt hk.1)) (fun k hk hp => (i.own k hp).elim hk.1 (fun e => by have := hk.2.2.1; omega))
  refine wpIn_wide.1 (range (n := 0) (gf := 31) (lb := #[.pointer (some ⟨B1, 0, none⟩), .pointer (some ⟨B2, 0, none⟩)]) ?hg (enters_of Tryd.func31 (by kernel_rfl) rfl) (encs := encB) (fun _ => rfl) (n0 := n0) (by omega) (xs := aroundL n b ps) (fun _ => False) (fun _ h => h.elim) I (fun _ _ _ _ => False) aI (fun _ _ _ _ _ _ h _ => h) ?h0 ?hseq ?hround ?hdone ?hstop)
  case hg => simp [Act.eval]
  case h0 => exact ⟨fun _ h => h.elim, fun h => h, _, a0, Kd.R_nil _ _ _ _ _⟩
  case hstop => intro D c q Pv V _ _ _ h; exact h.elim
  case hseq =>
    intro m l J Jx V aJ aJx hY hJ hb hsz
    have b0 : Below n0 W V := aB.trans (hb.mono (by omega))
    refine hA l n0 m J Jx aJ aJx _ hY [] (fun q hq => hq) _ V B1 B2 c A hJ (by omega) hc (fun W' h => ?_) (.inl ?_) ?_ ?_
    · exact readsInt_of.2 (Kd.reads_of_C (Kd.C_below hr (by rw [hn0]; exact b0.trans h)))
    · rw [← hn0]; exact (Array.getElem?_eq_some_iff.1 h2).1
    · exact (b0.block _ (by rw [← hn0]; exact (Array.getElem?_eq_some_iff.1 h2).1)).trans h2
    · exact (b0.block _ (by rw [← hn0]; exact (Array.getElem?_eq_some_iff.1 h1).1)).trans h1
  case hround =>
    intro l D m q x Pv V hpx hI hl hD hll hDD hloop
    rw [show encB x = #[.agg #[.int .i64 x.f0, .int .u64 x.f1]] from rfl, zip1]
    dsimp only
    have hlt : l < V.heap.size := by obtain ⟨r, hr'⟩ := hloop; exact (Array.getElem?_eq_some_iff.1 hr').1
    gi_wp2_with (rw [Oper.semAt_eq _ _ _ (fun c h => by cases h)]; go_simp; try go_bits)
    refine ⟨⟨(Below.refl n0 V).alloc (by omega) _, fun k _ hk => Below.heap_alloc V _ k hk⟩, fun V2 hi hsame hsz hl2 => ?_⟩
    have hI2 : I q Pv V2 := aI _ _ _ _ _ hI ((Its.of_below ((Below.refl _ V).alloc (Nat.le_refl _) _)).trans hi)
    obtain ⟨b1, b2, v, b3, b4⟩ := hI2
    have bx : V2.heap[V.heap.size]? = some (.cells #[.int .i64 x.f0, .int .u64 x.f1] 33 (0, 0)) := (hsame _ (by omega)).trans (World.alloc_heap_new V _)
    obtain ⟨Av, cv, rfl⟩ := Kd.R_slice b4
    have k0 : V2.cell? ⟨n0, 0, none⟩ = some (.slice Av q.length cv) := (blk_cell b3 0).trans rfl
    have kx : V2.cell? ⟨V.heap.size, 0, none⟩ = some (.int .i64 x.f0) := (blk_cell bx 0).trans rfl
    have kx1 : V2.cell? ⟨V.heap.size, 1, none⟩ = some (.int .u64 x.f1) := (blk_cell bx 1).trans rfl
    have hsz2 : V.heap.size < V2.heap.size := by rw [hsz]; simp
    have hn2 : n0 < V2.heap.size := (Array.getElem?_eq_some_iff.1 b3).1
    have hsz' := Aside0.mk hsz
    clear hsz
    have hql : q.length + 1 ≤ (aroundL n b ps).length := by have := hpx.length_le; simpa using this
    gi_wp2_with (first
      | (gi_at_builtin; refine R_appendIn k33 n0 rfl (.tmp 8) (.tmp 10) 23 33 (.agg #[(.int .i64 0), (.int .u64 0)]) 16 rfl Tryd.underlying23 info33 rfl (by decide) (by omega) _ q x [.int .i64 x.f0, .int .u64 x.f1] (fun k => ¬ Pv k) (fun _ => False) rfl rfl (k33_mkM _ _ _ x) (fun _ hk => hk.elim) (fun k hk hp => by have := b1 k hp; omega) b4 (by omega) (by omega) ?_; intro v1 w1 ho hg; obtain ⟨A1, c1, rfl⟩ := Kd.R_slice ho; have hk1 := (hg.block n0 hn2 (Kd.R_ne b4 b3 (by decide))).trans b3; have kk1 := (blk_cell hk1 0).trans rfl; have kf1 := blk_frozen hk1 0)
      | (rw [Oper.semAt_eq _ _ _ (fun c h => by cases h)]; go_simp; try go_bits))
    have hne := Kd.R_ne b4 b3 (show 33 ≠ 23 by decide)
    have hg0 := own_base (Kd.R_own b4).choose_spec
    refine ⟨⟨((Below.refl n0 V2).grown hg (Nat.le_of_lt hn2) (fun k e => hg0 k e)).setCell (Nat.le_refl _) _, fun k hk hlt => ?_⟩, ?_⟩
    · have h1 : k ≠ n0 := fun e => b2 (e ▸ hk)
      rw [Below.heap_setCell w1 _ _ k h1]
      exact hg.block k hlt (fun e => b4.1 k e.symm hk)
    · refine ⟨fun k hk => by have := b1 k hk; have := hg.size; simp; omega, b2, _, blk_set hk1 0 _, ?_⟩
      rw [List.length_append, List.length_singleton] at ho
      exact Kd.R_set ho hk1 (by decide) 0 _
  case hdone =>
    intro D Pv V hD hPD hI hb hd
    obtain ⟨b1, b2, v, b3, b4⟩ := hI
    obtain ⟨Av, cv, rfl⟩ := Kd.R_slice b4
    have k0 : V.cell? ⟨n0, 0, none⟩ = some (.slice Av (aroundL n b ps).length cv) := (blk_cell b3 0).trans rfl
    go_wp2_with fail
    refine ⟨by simp, .inl ⟨_, _, rfl, run_takeDeferred hd, ?_⟩⟩
    refine ⟨_, results_tmp rfl _ _ _, ?_⟩
    refine ⟨_, rfl, Kd.R_mono (Kd.R_step b4 (fun k hk hlt => World.putObj_heap_other (fun e => hk (e ▸ hPD)))) (fun _ _ => trivial), ?_⟩
    exact ((aB.trans hb).trans ⟨rfl, rfl, rfl, by simp, fun k hk => World.putObj_heap_other (by omega)⟩)

set_option maxRecDepth 100000 in
set_option maxHeartbeats 4000000 in
theorem collect (n b : Nat) (ps : List Int) (hA : Ar n b ps) (A : Option Addr) (c B1 B2 : Nat) (W : World) (hc : ps.length ≤ c) (hr : Kd.C (Kd.int .u64) W A ps.length ps) (hlen : (aroundL n b ps).length < 4294967296)
    (h2 : W.heap[B2]? = some (.cells #[.int .i64 (n : Int), .int .u64 (b : Int)] 33 (0, 0))) (h1 : W.heap[B1]? = some (.cells #[.slice A ps.length c] 36 (0, 0))) :
    Calls Tryd.prog 25 #[.func (.func 31) #[] #[.pointer (some ⟨B1, 0, none⟩), .pointer (some ⟨B2, 0, none⟩)]] W fun e W' => ∃ v0_ : Value, e = .returned v0_ ∧ Kd.R k33 33 W' W.heap.size (fun _ => True) v0_ (aroundL n b ps) ∧ Below W.heap.size W W' := by
  go_enter Tryd.func25, Tryd.ntmps25
  go_wp2_with fail
  refine (append_seq n b ps hA A c B1 B2 W hc hr hlen h2 h1).mono ?_
  rintro e W' ⟨v, rfl, hR, hB⟩
  obtain ⟨Av, cv, rfl⟩ := Kd.R_slice hR
  go_wp2_with fail
  go_ret
  exact ⟨_, rfl, hR, hB⟩
end Go.Proofs.YtaeaacdjiijooaaDoor.Pr

/- The contract of cover.Around, in the print's form. -/
namespace Go.Proofs.YtaeaacdjiijooaaDoor.Pr
open Go.RowKit Go.Proofs.YtaeaacdjiijooaaDoorW.PrintWords Go.Proofs.YtaeaacdjiijooaaDoorW.PrintLast Go.Proofs.YtaeaacdjiijooaaDoorW.PrintMore Go.IterLaw
set_option linter.unusedVariables false
set_option linter.unusedSimpArgs false
attribute [local go_sem] Oper.semAt_some

/-- Positions that may be: rising, each less than 2^h. -/
def posOk (h : Nat) : List Int → Bool
  | [] => true
  | [x] => decide (x < 2 ^ h)
  | x :: y :: r => decide (x < 2 ^ h) && decide (x < y) && posOk h (y :: r)
def cover_Around.f (_k : Nat) (a0 : Int) (l1 : List Int) : Option (List S_ × Int) :=
  if l1.length ≤ 100000 ∧ (∀ x ∈ l1, 0 ≤ x ∧ x < 18446744073709551616) then
    (if 0 ≤ a0 ∧ a0 ≤ 63 then (if posOk a0.toNat l1 then some (aroundL a0.toNat 0 l1, 0) else some ([], 2)) else some ([], 120))
  else none
theorem cover_Around.mono : ∀ a0 a1 k, LeO (cover_Around.f k a0 a1) (cover_Around.f (k + 1) a0 a1) := fun _ _ _ => LeO.refl _

theorem posOk_sorted (h : Nat) : ∀ l : List Int, posOk h l = true → l.Pairwise (· < ·)
  | [], _ => List.Pairwise.nil
  | [x], _ => by simp
  | x :: y :: r, hp => by
    simp only [posOk, Bool.and_eq_true, decide_eq_true_eq] at hp
    have ih := posOk_sorted h (y :: r) hp.2
    refine List.pairwise_cons.2 ⟨fun z hz => ?_, ih⟩
    rcases List.mem_cons.1 hz with rfl | hz
    · exact hp.1.2
    · have := (List.pairwise_cons.1 ih).1 z hz; have := hp.1.2; omega
theorem aroundL_len : ∀ (n : Nat) (b : Int) (ps : List Int), (aroundL n b ps).length ≤ if ps = [] then 1 else n * ps.length
  | 0, b, [] => by simp [aroundL]
  | n + 1, b, [] => by simp [aroundL]
  | 0, _, _ :: _ => by simp [aroundL]
  | n + 1, b, x :: xs => by
    rw [if_neg (by simp), aroundL, List.length_append]
    have h1 := aroundL_len n (2 * b) ((x :: xs).takeWhile (· < (2 * b + 1) * 2 ^ n))
    have h2 := aroundL_len n (2 * b + 1) ((x :: xs).dropWhile (· < (2 * b + 1) * 2 ^ n))
    have hl : ((x :: xs).takeWhile (· < (2 * b + 1) * 2 ^ n)).length + ((x :: xs).dropWhile (· < (2 * b + 1) * 2 ^ n)).length = (x :: xs).length := by
      rw [← List.length_append, List.takeWhile_append_dropWhile]
    generalize (x :: xs).takeWhile (· < (2 * b + 1) * 2 ^ n) = u at h1 hl ⊢
    generalize (x :: xs).dropWhile (· < (2 * b + 1) * 2 ^ n) = v at h2 hl ⊢
    have hm : (n + 1) * (x :: xs).length = n * u.length + n * v.length + (x :: xs).length := by rw [Nat.add_mul, ← hl, Nat.mul_add]; omega
    have hpos : 0 < (x :: xs).length := by simp
    rw [hm]
    by_cases hu : u = []
    · subst hu
      by_cases hv : v = []
      · subst hv; simp at hl
      · rw [if_neg hv] at h2; simp only [if_true] at h1; simp only [List.length_nil, Nat.mul_zero]; omega
    · rw [if_neg hu] at h1
      by_cases hv : v = []
      · subst hv; simp only [if_true] at h2; simp only [List.length_nil, Nat.mul_zero]; omega
      · rw [if_neg hv] at h2; omega
def okAt (h : Nat) (l : List Int) (i : Nat) : Prop := rd l (i : Int) / 2 ^ h = 0 ∧ (0 < i → rd l ((i : Int) - 1) < rd l (i : Int))
theorem posOk_iff (h : Nat) : ∀ l : List Int, (∀ x ∈ l, 0 ≤ x) → (posOk h l = true ↔ ∀ i, i < l.length → okAt h l i)
  | [], _ => by simp [posOk]
  | [x], hx => by
    have h0 := hx x (by simp)
    have hp : (0 : Int) < 2 ^ h := Int.pow_pos (by decide)
    simp only [posOk, decide_eq_true_eq, okAt]
    constructor
    · intro hlt i hi
      obtain rfl : i = 0 := by simpa using hi
      exact ⟨by simp [rd]; exact Int.ediv_eq_zero_of_lt h0 hlt, fun h => by omega⟩
    · intro H
      have := (H 0 (by simp)).1
      simp [rd] at this
      apply Int.lt_of_not_ge; intro hge
      have := Int.ediv_le_ediv hp hge
      rw [Int.ediv_self (by omega)] at this; omega
  | x :: y :: r, hx => by
    have h0 := hx x (by simp)
    have hp : (0 : Int) < 2 ^ h := Int.pow_pos (by decide)
    have ih := posOk_iff h (y :: r) (fun z hz => hx z (List.mem_cons_of_mem _ hz))
    have hsh : ∀ i : Nat, rd (x :: y :: r) ((i + 1 : Nat) : Int) = rd (y :: r) (i : Int) := fun i => by simp only [rd, Int.toNat_natCast, List.getD_cons_succ]
    simp only [posOk, Bool.and_eq_true, decide_eq_true_eq, ih]
    constructor
    · rintro ⟨⟨h1, h2⟩, h3⟩ i hi
      cases i with
      | zero => exact ⟨by simp [rd]; exact Int.ediv_eq_zero_of_lt h0 h1, fun h => by omega⟩
      | succ i =>
        obtain ⟨e1, e2⟩ := h3 i (by simpa using hi)
        refine ⟨by rw [hsh]; exact e1, fun _ => ?_⟩
        rw [hsh]
        cases i with
        | zero => simpa [rd] using h2
        | succ j =>
          have := e2 (by omega)
          rw [show ((j + 1 + 1 : Nat) : Int) - 1 = ((j + 1 : Nat) : Int) by omega, hsh]
          rwa [show ((j + 1 : Nat) : Int) - 1 = (j : Int) by omega] at this
    · intro H
      refine ⟨⟨?_, ?_⟩, fun i hi => ?_⟩
      · have := (H 0 (by simp)).1
        simp [rd] at this
        apply Int.lt_of_not_ge; intro hge
        have := Int.ediv_le_ediv hp hge
        rw [Int.ediv_self (by omega)] at this; omega
      · have := (H 1 (by simp)).2 (by omega)
        simpa [rd] using this
      · obtain ⟨e1, e2⟩ := H (i + 1) (by simpa using hi)
        rw [hsh] at e1
        refine ⟨e1, fun hi0 => ?_⟩
        have := e2 (by omega)
        rw [hsh] at this
        obtain ⟨j, rfl⟩ : ∃ j, i = j + 1 := ⟨i - 1, by omega⟩
        rw [show ((j + 1 + 1 : Nat) : Int) - 1 = ((j + 1 : Nat) : Int) by omega, hsh] at this
        rwa [show ((j + 1 : Nat) : Int) - 1 = (j : Int) by omega]

set_option maxRecDepth 100000 in
set_option maxHeartbeats 4000000 in
theorem around_top (h : Nat) (hh : h ≤ 63) (A : Option Addr) (c : Nat) (l : List Int) (w : World) (hr : Kd.C (Kd.int .u64) w A l.length l) (hc : l.length ≤ c) (hl : l.length ≤ 100000) (hx : ∀ x ∈ l, 0 ≤ x ∧ x < 18446744073709551616) :
    Calls Tryd.prog 16 #[.int .i64 (h : Int), .slice A l.length c] w fun e w' => ∃ v0_ : Value, e = .returned (.tuple #[v0_, .int .i64 (if posOk h l then 0 else 2)]) ∧ Kd.R k33 33 w' w.heap.size (fun _ => True) v0_ (if posOk h l then aroundL h 0 l else []) ∧ Below w.heap.size w w' := by
  have hf : cover_high.f (h : Int) = some true := by simp [cover_high.f]; omega
  obtain ⟨ri, hri⟩ : ∃ r : Int, (if posOk h l then 0 else 2) = r := ⟨_, rfl⟩
  obtain ⟨rl, hrl⟩ : ∃ r : List S_, (if posOk h l then aroundL h 0 l else []) = r := ⟨_, rfl⟩
  rw [hri, hrl]
  have HRI := Aside0.mk hri
  have HRL := Aside0.mk hrl
  clear hri hrl
  go_enter Tryd.func16, Tryd.ntmps16
  go_wp2_with (first | (go_at_call 24; (with_reducible refine (cover_high.calls (h : Int) true _ hf).mono ?_); rintro e w' ⟨rfl, ⟨nd, rfl⟩⟩))
  obtain ⟨V, hV⟩ : ∃ V, w.drewN nd = V := ⟨_, rfl⟩
  have hrV : Kd.C (Kd.int .u64) V A l.length l := by rw [← hV]; exact Kd.C_drewN hr nd
  rw [hV]
  have hlen : ((l.length : Nat) : Int) ≤ 100000 := by omega
  go_loopw [13] (fun v13 w' => w' = V ∧ ∃ i : Nat, v13 = .int .i64 (i : Int) ∧ i ≤ l.length ∧ ∀ j, j < i → okAt h l j) (fun v13 _ => match v13 with | .int _ i => ((l.length : Int) - i).toNat | _ => 0)
  case atStart => exact ⟨rfl, 0, rfl, Nat.zero_le _, fun j hj => by omega⟩
  case round =>
    obtain ⟨rfl, i, rfl, hi, hok⟩ := hrel
    by_cases hlt : i < l.length
    · have c0 : decide ((i : Int) < (l.length : Int)) = true := decide_eq_true (by omega)
      obtain ⟨ad, hA, hx0⟩ := Kd.at_int hrV (i : Int) (by omega) (by omega)
      subst hA
      rw [Int.toNat_natCast] at hx0
      have hxi : 0 ≤ rd l (i : Int) ∧ rd l (i : Int) < 18446744073709551616 := by
        have : rd l (i : Int) = l[i] := by simp [rd, hlt]
        rw [this]; exact hx _ (List.getElem_mem hlt)
      have bad : ¬ okAt h l i → posOk h l = false := fun hb => by
        rw [Bool.eq_false_iff]; intro hp
        exact hb ((posOk_iff h l (fun x hm => (hx x hm).1)).1 hp i hlt)
      have stepok : okAt h l i → ∀ j, j < i + 1 → okAt h l j := fun ho j hj => by
        by_cases e : j = i
        · subst e; exact ho
        · exact hok j (by omega)
      have endr : okAt h l i → (True ∧ ∃ i_1 : Nat, Value.int IntKind.i64 ((i : Int) + 1) = Value.int IntKind.i64 (i_1 : Int) ∧ i_1 ≤ l.length ∧ ∀ (j : Nat), j < i_1 → okAt h l j) ∧
          (match Value.int IntKind.i64 ((i : Int) + 1) with | Value.int k i => ((l.length : Int) - i).toNat | x => 0) < (match Value.int IntKind.i64 (i : Int) with | Value.int k i => ((l.length : Int) - i).toNat | x => 0) := fun ho =>
        ⟨⟨trivial, i + 1, by push_cast; rfl, by omega, stepok ho⟩, show ((l.length : Int) - ((i : Int) + 1)).toNat < ((l.length : Int) - (i : Int)).toNat by omega⟩
      have fin0 : posOk h l = false → ∀ W, wr = W → ∃ v0_ : Value, Ending.returned (.tuple #[.slice none 0 0, .int .i64 2]) = Ending.returned (.tuple #[v0_, .int .i64 ri]) ∧ Kd.R k33 33 W w.heap.size (fun _ => True) v0_ rl ∧ Below w.heap.size w W := fun hp W hW => by
        rw [← HRI.out, ← HRL.out, hp, ← hW, ← hV]
        exact ⟨_, rfl, Kd.R_nil _ _ _ _ _, pw_below_drewN (Below.refl _ _) nd⟩
      have hx' := Aside0.mk hx
      clear hx stepok
      by_cases hz : rd l (i : Int) / 2 ^ h = 0
      · by_cases hgt : (0 : Int) < (i : Int)
        · obtain ⟨ad', hA', hx1⟩ := Kd.at_int hrV ((i : Int) - 1) (by omega) (by omega)
          cases hA'
          rw [show ((i : Int) - 1).toNat = i - 1 by omega] at hx1
          by_cases hlt2 : rd l ((i : Int) - 1) < rd l (i : Int)
          · have c1 : decide (rd l (i : Int) ≤ rd l ((i : Int) - 1)) = false := decide_eq_false (by omega)
            replace endr := Aside0.mk (endr ⟨hz, fun _ => hlt2⟩)
            clear fin0 bad
            go_wp2
            exact endr.out
          · have c1 : decide (rd l (i : Int) ≤ rd l ((i : Int) - 1)) = true := decide_eq_true (by omega)
            replace fin0 := Aside0.mk (fin0 (bad (fun ho => hlt2 (ho.2 (by omega)))))
            clear endr bad
            go_wp2
            go_ret2
            exact fin0.out _ rfl
        · have c2 : decide ((0 : Int) < (i : Int)) = false := decide_eq_false hgt
          have c2n : decide (0 < i) = false := decide_eq_false (by omega)
          replace endr := Aside0.mk (endr ⟨hz, fun h => by omega⟩)
          clear fin0 bad hgt
          go_wp2
          exact endr.out
      · replace fin0 := Aside0.mk (fin0 (bad (fun ho => hz ho.1)))
        clear endr bad
        go_wp2
        go_ret2
        exact fin0.out _ rfl
    · have c0 : decide ((i : Int) < (l.length : Int)) = false := decide_eq_false (by omega)
      have hp : posOk h l = true := (posOk_iff h l (fun x hm => (hx x hm).1)).2 (fun j hj => hok j (by omega))
      have hpw := posOk_sorted h l hp
      have hA : Ar h 0 l := ar_all h 0 l hh (by have := Nat.pow_le_pow_right (n := 2) (by omega) hh; omega) hpw (by omega)
      have hlen2 := aroundL_len h 0 l
      go_wp2_with fail
      refine (around_any' (h : Int) 0 A l.length c wr).mono ?_
      rintro e V1 ⟨rfl, f2, f1, fS, fB⟩
      go_wp2_with fail
      refine (collect h 0 l hA A c (wr.heap.size + 1) wr.heap.size V1 hc (Kd.C_below hrV fB) ?_ f2 f1).mono ?_
      · have : h * l.length ≤ 63 * 100000 := Nat.mul_le_mul hh hl
        have e0 : ((0 : Nat) : Int) = 0 := rfl
        rw [e0] 
        split at hlen2 <;> omega
      rintro e W' ⟨v, rfl, hR, hB⟩
      obtain ⟨Av, cv, rfl⟩ := Kd.R_slice hR
      go_wp2_with fail
      go_ret2
      rw [← HRI.out, ← HRL.out, hp]
      have hsz : w.heap.size ≤ V1.heap.size := by rw [fS, ← hV]; simp
      refine ⟨_, rfl, Kd.R_lower hR hsz, ?_⟩
      have b0 : Below w.heap.size w wr := by rw [← hV]; exact pw_below_drewN (Below.refl _ _) nd
      exact (b0.trans (fB.mono (by rw [← hV]; simp))).trans (hB.mono hsz)

theorem cover_Around.calls (k : Nat) (a0 : Int) (A1 : Option Addr) (c1 : Nat) (l1 : List Int) (r1 : List (S_)) (r2 : Int) (w : World) (hr1 : Kd.C (Kd.int .u64) w A1 l1.length l1) (hc1 : l1.length ≤ c1) (h : cover_Around.f k a0 l1 = some (r1, r2)) :
    Calls Tryd.prog 16 #[.int .i64 a0, .slice A1 l1.length c1] w fun e w' => ∃ v0_ : Value, e = .returned (.tuple #[v0_, .int .i64 r2]) ∧ Kd.R k33 33 w' w.heap.size (fun _ => True) v0_ r1 ∧ Below w.heap.size w w' := by
  unfold cover_Around.f at h
  split at h
  · rename_i hg
    split at h
    · rename_i ha
      obtain ⟨n, rfl⟩ : ∃ n : Nat, a0 = (n : Int) := ⟨a0.toNat, by omega⟩
      rw [Int.toNat_natCast] at h
      have key := around_top n (by omega) A1 c1 l1 w hr1 hc1 hg.1 hg.2
      split at h
      · rename_i hp
        simp only [Option.some.injEq, Prod.mk.injEq] at h
        obtain ⟨rfl, rfl⟩ := h
        simpa only [hp, if_true] using key
      · rename_i hp
        simp only [Option.some.injEq, Prod.mk.injEq] at h
        obtain ⟨rfl, rfl⟩ := h
        rw [Bool.not_eq_true] at hp
        rw [hp] at key
        exact key
    · rename_i ha
      simp only [Option.some.injEq, Prod.mk.injEq] at h
      obtain ⟨rfl, rfl⟩ := h
      have hf : cover_high.f a0 = some false := by simp [cover_high.f]; omega
      clear ha
      go_enter Tryd.func16, Tryd.ntmps16
      go_wp2_with (first | (go_at_call 24; (with_reducible refine (cover_high.calls a0 false _ hf).mono ?_); rintro e w' ⟨rfl, ⟨nd, rfl⟩⟩))
      go_ret2
      exact ⟨_, rfl, Kd.R_nil _ _ _ _ _, pw_below_drewN (Below.refl _ _) nd⟩
  · cases h
end Go.Proofs.YtaeaacdjiijooaaDoor.Pr
