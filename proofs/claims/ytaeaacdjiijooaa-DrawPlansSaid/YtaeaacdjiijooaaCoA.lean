import Derived.Test.YtaeaacdjiijooaaProg
import Derived.Conc.CompanyMem
import Derived.Conc.Starve
import Derived.Laws.MakeOwn
import Derived.Below
import Derived.OwnWalk
import Derived.Conc.AppendWalk
import Derived.RowKit
import Derived.KernelRfl
import Derived.Test.YtaeaacdjiijooaaWWords
import Derived.Test.YtaeaacdjiijooaaWMore
import Derived.Test.YtaeaacdjiijooaaWLast
namespace Go.Proofs.Ytaeaacdjiijooaa.Co
open Go.Conc Go.RowKit Go.Proofs.YtaeaacdjiijooaaW.PrintWords Go.Proofs.YtaeaacdjiijooaaW.PrintLast Go.Proofs.YtaeaacdjiijooaaW.PrintMore
set_option linter.unusedVariables false
set_option linter.unusedSimpArgs false
variable {main : Bool} {R : World → World → Prop} {D : World → World → Array Event → Prop}
set_option maxRecDepth 100000 in
theorem high_c (T : Terms R D) : ∃ k, ∀ (h : Int) (h0 : 0 ≤ h) (h1 : h ≤ 63) (H : World → Prop) (rl : ∀ {w w₁}, H w → R w w₁ → H w₁) (w : World), H w →
    CallsC Try.prog main R D 27 #[.int .i64 h] k w fun v w' => v = .bool true ∧ H w' := by
  co_apply Exists.intro
  intro h h0 h1 H rl w hF
  co_apply callsC_of_wpC Try.func27 (by rfl) rfl
  simp only [Try.ntmps27, List.size_toArray, List.length_cons, List.length_nil, Nat.reduceAdd, Nat.reduceSub, Array.replicate_succ, Array.replicate_zero, List.push_toArray, List.append_toArray, List.nil_append, List.cons_append]
  have e0 : decide (0 ≤ h) = true := decide_eq_true h0
  have e1 : decide (h ≤ 63) = true := decide_eq_true h1
  co_go T rl hF (co_quiet T)
  exact ⟨rfl, _, resultsC_tmp (by rfl) _, rfl, hF⟩
def posV (h d : Int) : Int := Go.bits .and .u64 d (IntKind.u64.wrap (IntKind.u64.wrap (2 ^ h.toNat) - 1))
set_option maxRecDepth 100000 in
theorem position_c (T : Terms R D) : ∃ k, ∀ (h : Int) (h0 : 0 ≤ h) (h1 : h ≤ 63) (d : Int) (H : World → Prop) (rl : ∀ {w w₁}, H w → R w w₁ → H w₁) (w : World), H w →
    CallsC Try.prog main R D 10 #[.int .i64 h, .int .u64 d] k w fun v w' => v = .tuple #[.int .u64 (posV h d), .int .i64 0] ∧ H w' := by
  obtain ⟨kh, hh⟩ := high_c (main := main) T
  co_apply Exists.intro
  intro h h0 h1 d H rl w hF
  co_apply callsC_of_wpC Try.func10 (by rfl) rfl
  simp only [Try.ntmps10, List.size_toArray, List.length_cons, List.length_nil, Nat.reduceAdd, Nat.reduceSub, Array.replicate_succ, Array.replicate_zero, List.push_toArray, List.append_toArray, List.nil_append, List.cons_append]
  have e0 : ¬ (h < 0) := by omega
  have e1 : ¬ (64 ≤ h) := by omega
  co_go T rl hF (co_quiet T)
  co_apply opsC_call T rfl (by rfl) rfl
  · walk_nrm
    exact hh h h0 h1 H rl _ hF
  rintro v w' ⟨rfl, hF'⟩
  clear hF
  walk_nrm
  co_go T rl hF' (co_quiet T)
  co_apply wpC_cond T (t := false)
  · rfl
  simp only [Bool.false_eq_true, if_false]
  co_go T rl hF' (co_quiet T)
  exact ⟨rfl, _, resultsC_tmp2 (by rfl) _, rfl, hF'⟩
/-- What is held: the slice that the call makes, and that all below stands. -/
structure HR (c B M : Nat) (w0 : World) (v : Value) (n : Nat) (xs : List Value) (w : World) : Prop where
  cB : c < B
  BM : B ≤ M
  sz : M ≤ w.heap.size
  old : ∀ b, b < B → b ≠ c → w.heap[b]? = w0.heap[b]?
  os : w.os = w0.os
  tape : w.tape = w0.tape
  output : w.output = w0.output
  own : w.ownsRow B 29 2 v n xs
  top : ∀ g, v.ownBlock = some g → g < M
/-- .. and a block besides. -/
structure HB (c B M : Nat) (w0 : World) (v : Value) (n : Nat) (xs : List Value) (N : Nat) (cs : Array Value) (t : TypeId) (w : World) : Prop where
  hr : HR c B M w0 v n xs w
  MN : M ≤ N
  blk : w.heap[N]? = some (.cells cs t (0, 0))
section
variable {c B M : Nat} {w0 : World} {v : Value} {n : Nat} {xs : List Value} {w w₁ : World} {N : Nat} {cs : Array Value} {t : TypeId}
theorem ownsRow_keep (h : w.ownsRow B 29 2 v n xs) (hk : ∀ g, v.ownBlock = some g → w₁.heap[g]? = w.heap[g]?) : w₁.ownsRow B 29 2 v n xs := by
  obtain ⟨h1, h2⟩ := h
  refine ⟨h1, h2.imp id ?_⟩
  rintro ⟨g, cap, cur, rfl, hb, hg, hr⟩
  exact ⟨g, cap, cur, rfl, hb, (hk g rfl).trans hg, hr⟩
theorem ownBlock_ge (h : w.ownsRow B 29 2 v n xs) : ∀ g, v.ownBlock = some g → B ≤ g := by
  obtain ⟨h1, h2⟩ := h
  rcases h2 with ⟨rfl, _⟩ | ⟨g, cap, cur, rfl, hb, _⟩
  · intro g hg; cases hg
  · intro g' hg; injection hg with e; exact e ▸ hb
theorem HR.rely (h : HR c B M w0 v n xs w) (r : Go.Conc.Aside c w w₁) : HR c B M w0 v n xs w₁ :=
  ⟨h.cB, h.BM, by rw [r.size]; exact h.sz, fun b hb hc => (r.block b hc).trans (h.old b hb hc), r.os.trans h.os, r.tape.trans h.tape, r.output.trans h.output,
    ownsRow_keep h.own fun g hg => r.block g (by have := ownBlock_ge h.own g hg; have := h.cB; omega), h.top⟩
theorem HB.rely (h : HB c B M w0 v n xs N cs t w) (r : Go.Conc.Aside c w w₁) : HB c B M w0 v n xs N cs t w₁ :=
  ⟨h.hr.rely r, h.MN, (r.block N (by have := h.hr.cB; have := h.hr.BM; have := h.MN; omega)).trans h.blk⟩
theorem HR.made (h : HR c B M w0 v n xs w) (cs : Array Value) (t : TypeId) : HB c B M w0 v n xs w.heap.size cs t (w.alloc (.cells cs t (0, 0))) :=
  have k : ∀ b, b < w.heap.size → (w.alloc (.cells cs t (0, 0))).heap[b]? = w.heap[b]? := fun b hb => Below.heap_alloc _ _ _ hb
  ⟨⟨h.cB, h.BM, by rw [World.size_alloc]; have := h.sz; omega, fun b hb hc => (k b (by have := h.sz; have := h.BM; omega)).trans (h.old b hb hc), h.os, h.tape, h.output,
    ownsRow_keep h.own fun g hg => k g (by have := h.top g hg; have := h.sz; omega), h.top⟩, h.sz, heap_alloc_new _ _⟩
theorem HB.set (h : HB c B M w0 v n xs N cs t w) (j : Nat) (x : Value) : HB c B M w0 v n xs N (cs.setIfInBounds j x) t (w.setCell ⟨N, j, none⟩ x) :=
  have k : ∀ b, b ≠ N → (w.setCell ⟨N, j, none⟩ x).heap[b]? = w.heap[b]? := fun b hb => Below.heap_setCell _ _ _ _ (show b ≠ N from hb)
  ⟨⟨h.hr.cB, h.hr.BM, by simpa [World.setCell] using h.hr.sz, fun b hb hc => (k b (by have := h.hr.BM; have := h.MN; omega)).trans (h.hr.old b hb hc), by simpa [World.setCell] using h.hr.os, by simpa [World.setCell] using h.hr.tape, by simpa [World.setCell] using h.hr.output,
    ownsRow_keep h.hr.own fun g hg => k g (by have := h.hr.top g hg; have := h.MN; omega), h.hr.top⟩, h.MN, blk_set h.blk j x⟩
end

/-! ### a callee whose results lie in memory -/
section
variable {P : Program}
def bodyPostW (P : Program) (R : World → World → Prop) (D : World → World → Array Event → Prop) (f : FuncId) (fn : Func) (Post : Value → World → Prop) : Exit → Act → World → Prop
  | .normal, a, w | .ret, a, w => a.defers = [] ∧ ∀ w₁, R w w₁ → ∃ v, (results fn a.tmps).run P w₁ = .ok v w₁ ∧ D w₁ w₁ (seen P f ((results fn a.tmps).events P w₁ #[])) ∧ Post v w₁
  | _, _, _ => False
def CallsW (P : Program) (main : Bool) (R : World → World → Prop) (D : World → World → Array Event → Prop) (f : FuncId) (args : Array Value) (n : Nat) (w : World) (Post : Value → World → Prop) : Prop :=
  ∃ fn c, P.funcs[f]? = some fn ∧ (fn.name == "runtime.NumGoroutine") = false ∧ fn.body = some c ∧
    c.wpC P main R D f n (bodyPostW P R D f fn Post) { tmps := args ++ Array.replicate (fn.ntmps - args.size) undef, defers := [] } w
theorem callsW_of_wpC {f : FuncId} {fn : Func} {c : Code} {args : Array Value} {n : Nat} {w : World} {Post : Value → World → Prop} (hf : P.funcs[f]? = some fn) (hname : (fn.name == "runtime.NumGoroutine") = false) (hb : fn.body = some c)
    (h : c.wpC P main R D f n (bodyPostW P R D f fn Post) { tmps := args ++ Array.replicate (fn.ntmps - args.size) undef, defers := [] } w) : CallsW P main R D f args n w Post := ⟨fn, c, hf, hname, hb, h⟩
theorem stepG_leaveW {b : Frame} {a : Act} {todo : List Item} {c : Frame} {cs : List Frame} {fn : Func} {v : Value} {w : World} (hn : b.kind = .normal) (hd : a.defers = []) (hf : P.funcs[b.fn]? = some fn) (hr : (results fn a.tmps).run P w = .ok v w) :
    stepG P main (G { b.at a todo with mode := .returning } (c :: cs)) w = .go (G (c.finish v) cs) w (seen P b.fn ((results fn a.tmps).events P w #[]) ++ #[]) := by
  have e : (results fn a.tmps).runT P w #[] = (.ok v w, (results fn a.tmps).events P w #[]) := by
    rw [← hr]
    exact Prod.ext (Sem.runT_fst ..) rfl
  simp only [G, stepG, unwind, Frame.at, hd, hf, e, doReturn, hn, GStep.after]
theorem opsC_callW (T : Terms R D) {fn : FuncId} {Q : Exit → Act → World → Prop} {a : Act} {w : World} {ops : Array Oper} {i : Nat} {rest : List Nat} {o : Oper} {f : FuncId} {args : Array Operand} {ats : Array TypeId} {nf n : Nat} {Post : Value → World → Prop}
    (ho : ops[i]? = some o) (hw : Region.wanted o (yielded ops a.tmps) = true) (hop : o.op = .call { callee := .value (.func f), args, argTypes := ats })
    (hcall : CallsW P main R D f (args.map a.eval) nf w Post) (hnext : ∀ v w', Post v w' → OpsC P main R D fn ops rest n Q (a.put o.dst v) w') : OpsC P main R D fn ops (i :: rest) (n + nf + 3) Q a w := by
  intro b k cs Stop m hb hk hc
  obtain ⟨fn', c, hf, hname, hbody, hwp⟩ := hcall
  have hfin : ∀ v, (b.at a (.inRegion ops (i :: rest) :: k)).finish v = b.at (a.put o.dst v) (.inRegion ops rest :: k) := fun v => by rw [Frame.finish_at, ho]; rfl
  have hleave : ∀ (a' : Act) (w' : World) (todo : List Item), bodyPostW P R D f fn' Post .ret a' w' →
      Goes P main R D Stop (m + n + 1) (G { (base f).at a' todo with mode := .returning } (b.at a (.inRegion ops (i :: rest) :: k) :: cs)) w' := by
    rintro a' w' todo ⟨hd, hr⟩
    refine Goes.step rfl fun w₁ h₁ => ?_
    obtain ⟨v, h1, h2, h3⟩ := hr w₁ h₁
    rw [stepG_leaveW (b := base f) rfl hd hf h1, hfin]
    exact ⟨by simpa [base] using h2, hnext v w₁ h3 b k cs Stop m hb hk hc⟩
  have hbodyG : Goes P main R D Stop (m + n + 2 + nf) (G ((base f).at { tmps := args.map a.eval ++ Array.replicate (fn'.ntmps - (args.map a.eval).size) undef, defers := [] } [.code c]) (b.at a (.inRegion ops (i :: rest) :: k) :: cs)) w := by
    refine hwp (base f) [] _ Stop (m + n + 2) rfl (by simp [base]) fun e a' w' q => ?_
    cases e with
    | normal => exact Goes.step rfl fun w₁ h₁ => by rw [stepG_end]; exact ⟨T.idle _, (hleave a' w' [] q).rely T.trans h₁⟩
    | ret => exact fun todo => (hleave a' w' todo q).more
    | exit id => exact q.elim
    | goto l => exact q.elim
    | panic ch => exact q.elim
    | outgrown => exact q.elim
  have e : m + (n + nf + 3) = (m + n + 2 + nf) + 1 := by omega
  rw [e]
  exact Goes.step rfl fun w₁ h₁ => goes_call ho hw hk hop hf hname hbody ⟨T.idle _, hbodyG.rely T.trans h₁⟩
end
/-! ### draw.Pair -/
def loV (h a b : Int) : Int := if posV h b < posV h a then posV h b else posV h a
def hiV (h a b : Int) : Int := IntKind.u64.wrap ((if posV h a < posV h b then posV h b else posV h a) + 1)
/-- What this goroutine's steps do: below B all stands; what is written lies from B on. -/
def Stl (B c : Nat) (l : Loc) : Prop := (∃ a : Addr, l = .cell a ∧ a.block < B) ∨ l = .obj c
def EvR (B : Nat) (e : Event) : Prop := (∀ m, e.loc = .mark m → Neutral m) ∧ (e.write = true → ∃ a : Addr, e.loc = .cell a ∧ B ≤ a.block)
def DR (B : Nat) (w w' : World) (es : Array Event) : Prop := (∀ b, b < B → w'.heap[b]? = w.heap[b]?) ∧ ∀ e ∈ es, EvR B e
theorem evR_cell {B : Nat} (a : Addr) (wr sy : Bool) (h : wr = true → B ≤ a.block) : EvR B ⟨.cell a, wr, sy⟩ := ⟨fun m hm => (by cases hm), fun hw => ⟨a, rfl, h hw⟩⟩
theorem HB.below2 {c B M : Nat} {w0 : World} {v : Value} {n : Nat} {xs : List Value} {w : World} {N : Nat} {cs : Array Value} {t : TypeId} (h : HB c B M w0 v n xs N cs t w) (i j : Nat) (x y : Value) : ∀ b, b < B → ((w.setCell ⟨N, i, none⟩ x).setCell ⟨N, j, none⟩ y).heap[b]? = w.heap[b]? := fun b hb => by
  have hne : b ≠ N := by have := h.hr.BM; have := h.MN; omega
  rw [Below.heap_setCell _ _ _ _ hne, Below.heap_setCell _ _ _ _ hne]
theorem HB.ge {c B M : Nat} {w0 : World} {v : Value} {n : Nat} {xs : List Value} {w : World} {N : Nat} {cs : Array Value} {t : TypeId} (h : HB c B M w0 v n xs N cs t w) : B ≤ N := by have := h.hr.BM; have := h.MN; omega
theorem termsR (B c : Nat) : Terms (Go.Conc.Aside c) (DR B) := ⟨fun _ _ _ h k => h.trans k, fun _ => ⟨fun _ _ => rfl, by simp⟩⟩
attribute [local go_sem] max2_int min2_int max_two min_two
set_option maxHeartbeats 4000000 in
set_option maxRecDepth 100000 in
theorem pair_c (c B : Nat) : ∃ k, ∀ (M : Nat) (w0 : World) (vo : Value) (n : Nat) (xs : List Value) (h : Int) (h0 : 0 ≤ h) (h1 : h ≤ 63) (d1 d2 : Int) (w : World), HR c B M w0 vo n xs w →
    CallsW Try.prog main (Go.Conc.Aside c) (DR B) 12 #[.int .i64 h, .int .u64 d1, .int .u64 d2] k w fun v w' =>
      v = .tuple #[.agg #[.int .u64 (loV h d1 d2), .int .u64 (hiV h d1 d2)], .int .i64 0] ∧ HR c B M w0 vo n xs w' := by
  have hu29 := Try.underlying29
  have T := termsR B c
  obtain ⟨kp, hp⟩ := position_c (main := main) T
  co_apply Exists.intro
  intro M w0 vo n xs h h0 h1 d1 d2 w hF
  co_apply callsW_of_wpC Try.func12 (by rfl) rfl
  simp only [Try.ntmps12, List.size_toArray, List.length_cons, List.length_nil, Nat.reduceAdd, Nat.reduceSub, Array.replicate_succ, Array.replicate_zero, List.push_toArray, List.append_toArray, List.nil_append, List.cons_append]
  co_apply wpC_seq T
  co_reg T
  co_opw HR.rely hF (skip) (refine ⟨fun b hb => Below.heap_alloc _ _ _ (by have := hF.sz; have := hF.BM; omega), ?_⟩; co_evs (skip))
  have hB := hF.made #[.int .u64 0, .int .u64 0] 29
  clear hF
  co_go T HB.rely hB (co_quiet T)
  co_apply opsC_call T rfl (by rfl) rfl
  · walk_nrm
    exact hp h h0 h1 d1 _ HB.rely _ hB
  rintro v w' ⟨rfl, hB'⟩
  clear hB
  walk_nrm
  co_go T HB.rely hB' (co_quiet T)
  co_apply opsC_call T rfl (by rfl) rfl
  · walk_nrm
    exact hp h h0 h1 d2 _ HB.rely _ hB'
  rintro v w' ⟨rfl, hB⟩
  clear hB'
  walk_nrm
  co_go T HB.rely hB (co_quiet T)
  co_apply wpC_cond T (t := false)
  · rfl
  simp only [Bool.false_eq_true, if_false]
  co_go T HB.rely hB (co_quiet T)
  co_opw HB.rely hB (have hc0 : _ = some (Value.int .u64 0) := (blk_cell hB.blk 0).trans rfl; have hc1 : _ = some (Value.int .u64 0) := (blk_cell hB.blk 1).trans rfl; have hz0 := blk_frozen hB.blk 0; have hz1 := blk_frozen hB.blk 1) (refine ⟨hB.below2 0 1 _ _, fun e he => ?_⟩; have hm := mem_listed he; simp [go_sem, *] at hm; rcases hm with rfl | rfl <;> exact evR_cell _ _ _ fun _ => hB.ge)
  replace hB := (hB.set 0 (.int .u64 (loV h d1 d2))).set 1 (.int .u64 (hiV h d1 d2))
  clear hc0 hc1 hz0 hz1
  co_go T HB.rely hB (co_quiet T)
  refine ⟨rfl, fun w₁ hr => ?_⟩
  have hB1 := hB.rely hr
  refine ⟨_, results_ct rfl _ _ _ 29 #[.int .u64 (loV h d1 d2), .int .u64 (hiV h d1 d2)] (0, 0) _ rfl hB1.blk Try.underlying29 rfl (by kernel_rfl), ⟨fun _ _ => rfl, ?_⟩, rfl, hB1.hr⟩
  intro e he
  have hm := mem_seen he
  have hc0 : w₁.cell? ⟨_, 0, none⟩ = some (Value.int .u64 (loV h d1 d2)) := (blk_cell hB1.blk 0).trans rfl
  have hc1 : w₁.cell? ⟨_, 1, none⟩ = some (Value.int .u64 (hiV h d1 d2)) := (blk_cell hB1.blk 1).trans rfl
  have hi29 : (Try.prog.info? 29).map (·.size) = some 2 := by kernel_rfl
  simp [results, Try.f12, go_sem, hu29, hc0, hc1] at hm
  rcases hm with rfl | rfl <;> exact evR_cell _ _ _ fun h => by cases h
end Go.Proofs.Ytaeaacdjiijooaa.Co
