/- draw.Plan and draw.pairs in company. -/
import Derived.Test.YtaeaacdjiijooaaProg
import Derived.Conc.CompanyMem
import Derived.Conc.Starve
import Derived.Laws.MakeOwn
import Derived.Below
import Derived.OwnWalk
import Derived.Conc.AppendWalk
import Derived.RowKit
import Derived.KernelRfl
import Derived.Test.YtaeaacdjiijooaaWWords
import Derived.Test.YtaeaacdjiijooaaWLess
import Derived.Test.YtaeaacdjiijooaaWLast
import Derived.Test.YtaeaacdjiijooaaLiftA
import Derived.Conc.PipeWords
namespace Go.Proofs.Ytaeaacdjiijooaa.Co
open Go.Conc Go.RowKit Go.Proofs.YtaeaacdjiijooaaW.PrintWords Go.Proofs.YtaeaacdjiijooaaW.PrintLast Go.Proofs.YtaeaacdjiijooaaW.PrintMore
set_option linter.unusedVariables false
set_option linter.unusedSimpArgs false
variable {main : Bool} {R : World → World → Prop} {D : World → World → Array Event → Prop}
set_option maxRecDepth 100000 in
theorem high_c (T : Terms R D) : ∃ k, ∀ (h : Int) (h0 : 0 ≤ h) (h1 : h ≤ 63) (H : World → Prop) (rl : ∀ {w w₁}, H w → R w w₁ → H w₁) (w : World), H w →
    CallsC Try.prog main R D 27 #[.int .i64 h] k w fun v w' => v = .bool true ∧ H w' := by
  co_apply Exists.intro
  intro h h0 h1 H rl w hF
  co_apply callsC_of_wpC Try.func27 (by rfl) rfl
  simp only [Try.ntmps27, List.size_toArray, List.length_cons, List.length_nil, Nat.reduceAdd, Nat.reduceSub, Array.replicate_succ, Array.replicate_zero, List.push_toArray, List.append_toArray, List.nil_append, List.cons_append]
  have e0 : decide (0 ≤ h) = true := decide_eq_true h0
  have e1 : decide (h ≤ 63) = true := decide_eq_true h1
  co_go T rl hF (co_quiet T)
  exact ⟨rfl, _, resultsC_tmp (by rfl) _, rfl, hF⟩
def posV (h d : Int) : Int := Go.bits .and .u64 d (IntKind.u64.wrap (IntKind.u64.wrap (2 ^ h.toNat) - 1))
set_option maxRecDepth 100000 in
theorem position_c (T : Terms R D) : ∃ k, ∀ (h : Int) (h0 : 0 ≤ h) (h1 : h ≤ 63) (d : Int) (H : World → Prop) (rl : ∀ {w w₁}, H w → R w w₁ → H w₁) (w : World), H w →
    CallsC Try.prog main R D 10 #[.int .i64 h, .int .u64 d] k w fun v w' => v = .tuple #[.int .u64 (posV h d), .int .i64 0] ∧ H w' := by
  obtain ⟨kh, hh⟩ := high_c (main := main) T
  co_apply Exists.intro
  intro h h0 h1 d H rl w hF
  co_apply callsC_of_wpC Try.func10 (by rfl) rfl
  simp only [Try.ntmps10, List.size_toArray, List.length_cons, List.length_nil, Nat.reduceAdd, Nat.reduceSub, Array.replicate_succ, Array.replicate_zero, List.push_toArray, List.append_toArray, List.nil_append, List.cons_append]
  have e0 : ¬ (h < 0) := by omega
  have e1 : ¬ (64 ≤ h) := by omega
  co_go T rl hF (co_quiet T)
  co_apply opsC_call T rfl (by rfl) rfl
  · walk_nrm
    exact hh h h0 h1 H rl _ hF
  rintro v w' ⟨rfl, hF'⟩
  clear hF
  walk_nrm
  co_go T rl hF' (co_quiet T)
  co_apply wpC_cond T (t := false)
  · rfl
  simp only [Bool.false_eq_true, if_false]
  co_go T rl hF' (co_quiet T)
  exact ⟨rfl, _, resultsC_tmp2 (by rfl) _, rfl, hF'⟩
/-- What is held: the slice that the call makes, and that all below stands. -/
structure HR (c B M : Nat) (w0 : World) (v : Value) (n : Nat) (xs : List Value) (w : World) : Prop where
  cB : c < B
  BM : B ≤ M
  sz : M ≤ w.heap.size
  old : ∀ b, b < B → b ≠ c → w.heap[b]? = w0.heap[b]?
  os : w.os = w0.os
  tape : w.tape = w0.tape
  output : w.output = w0.output
  own : w.ownsRow B 29 2 v n xs
  top : ∀ g, v.ownBlock = some g → g < M
/-- .. and a block besides. -/
structure HB (c B M : Nat) (w0 : World) (v : Value) (n : Nat) (xs : List Value) (N : Nat) (cs : Array Value) (t : TypeId) (w : World) : Prop where
  hr : HR c B M w0 v n xs w
  MN : M ≤ N
  blk : w.heap[N]? = some (.cells cs t (0, 0))
section
variable {c B M : Nat} {w0 : World} {v : Value} {n : Nat} {xs : List Value} {w w₁ : World} {N : Nat} {cs : Array Value} {t : TypeId}
theorem ownsRow_keep (h : w.ownsRow B 29 2 v n xs) (hk : ∀ g, v.ownBlock = some g → w₁.heap[g]? = w.heap[g]?) : w₁.ownsRow B 29 2 v n xs := by
  obtain ⟨h1, h2⟩ := h
  refine ⟨h1, h2.imp id ?_⟩
  rintro ⟨g, cap, cur, rfl, hb, hg, hr⟩
  exact ⟨g, cap, cur, rfl, hb, (hk g rfl).trans hg, hr⟩
theorem ownBlock_ge (h : w.ownsRow B 29 2 v n xs) : ∀ g, v.ownBlock = some g → B ≤ g := by
  obtain ⟨h1, h2⟩ := h
  rcases h2 with ⟨rfl, _⟩ | ⟨g, cap, cur, rfl, hb, _⟩
  · intro g hg; cases hg
  · intro g' hg; injection hg with e; exact e ▸ hb
theorem HR.rely (h : HR c B M w0 v n xs w) (r : Go.Conc.Aside c w w₁) : HR c B M w0 v n xs w₁ :=
  ⟨h.cB, h.BM, by rw [r.size]; exact h.sz, fun b hb hc => (r.block b hc).trans (h.old b hb hc), r.os.trans h.os, r.tape.trans h.tape, r.output.trans h.output,
    ownsRow_keep h.own fun g hg => r.block g (by have := ownBlock_ge h.own g hg; have := h.cB; omega), h.top⟩
theorem HB.rely (h : HB c B M w0 v n xs N cs t w) (r : Go.Conc.Aside c w w₁) : HB c B M w0 v n xs N cs t w₁ :=
  ⟨h.hr.rely r, h.MN, (r.block N (by have := h.hr.cB; have := h.hr.BM; have := h.MN; omega)).trans h.blk⟩
theorem HR.made (h : HR c B M w0 v n xs w) (cs : Array Value) (t : TypeId) : HB c B M w0 v n xs w.heap.size cs t (w.alloc (.cells cs t (0, 0))) :=
  have k : ∀ b, b < w.heap.size → (w.alloc (.cells cs t (0, 0))).heap[b]? = w.heap[b]? := fun b hb => Below.heap_alloc _ _ _ hb
  ⟨⟨h.cB, h.BM, by rw [World.size_alloc]; have := h.sz; omega, fun b hb hc => (k b (by have := h.sz; have := h.BM; omega)).trans (h.old b hb hc), h.os, h.tape, h.output,
    ownsRow_keep h.own fun g hg => k g (by have := h.top g hg; have := h.sz; omega), h.top⟩, h.sz, heap_alloc_new _ _⟩
theorem HB.set (h : HB c B M w0 v n xs N cs t w) (j : Nat) (x : Value) : HB c B M w0 v n xs N (cs.setIfInBounds j x) t (w.setCell ⟨N, j, none⟩ x) :=
  have k : ∀ b, b ≠ N → (w.setCell ⟨N, j, none⟩ x).heap[b]? = w.heap[b]? := fun b hb => Below.heap_setCell _ _ _ _ (show b ≠ N from hb)
  ⟨⟨h.hr.cB, h.hr.BM, by simpa [World.setCell] using h.hr.sz, fun b hb hc => (k b (by have := h.hr.BM; have := h.MN; omega)).trans (h.hr.old b hb hc), by simpa [World.setCell] using h.hr.os, by simpa [World.setCell] using h.hr.tape, by simpa [World.setCell] using h.hr.output,
    ownsRow_keep h.hr.own fun g hg => k g (by have := h.hr.top g hg; have := h.MN; omega), h.hr.top⟩, h.MN, blk_set h.blk j x⟩
end

/-! ### a callee whose results lie in memory -/
section
variable {P : Program}
def bodyPostW (P : Program) (R : World → World → Prop) (D : World → World → Array Event → Prop) (f : FuncId) (fn : Func) (Post : Value → World → Prop) : Exit → Act → World → Prop
  | .normal, a, w | .ret, a, w => a.defers = [] ∧ ∀ w₁, R w w₁ → ∃ v, (results fn a.tmps).run P w₁ = .ok v w₁ ∧ D w₁ w₁ (seen P f ((results fn a.tmps).events P w₁ #[])) ∧ Post v w₁
  | _, _, _ => False
def CallsW (P : Program) (main : Bool) (R : World → World → Prop) (D : World → World → Array Event → Prop) (f : FuncId) (args : Array Value) (n : Nat) (w : World) (Post : Value → World → Prop) : Prop :=
  ∃ fn c, P.funcs[f]? = some fn ∧ (fn.name == "runtime.NumGoroutine") = false ∧ fn.body = some c ∧
    c.wpC P main R D f n (bodyPostW P R D f fn Post) { tmps := args ++ Array.replicate (fn.ntmps - args.size) undef, defers := [] } w
theorem callsW_of_wpC {f : FuncId} {fn : Func} {c : Code} {args : Array Value} {n : Nat} {w : World} {Post : Value → World → Prop} (hf : P.funcs[f]? = some fn) (hname : (fn.name == "runtime.NumGoroutine") = false) (hb : fn.body = some c)
    (h : c.wpC P main R D f n (bodyPostW P R D f fn Post) { tmps := args ++ Array.replicate (fn.ntmps - args.size) undef, defers := [] } w) : CallsW P main R D f args n w Post := ⟨fn, c, hf, hname, hb, h⟩
theorem stepG_leaveW {b : Frame} {a : Act} {todo : List Item} {c : Frame} {cs : List Frame} {fn : Func} {v : Value} {w : World} (hn : b.kind = .normal) (hd : a.defers = []) (hf : P.funcs[b.fn]? = some fn) (hr : (results fn a.tmps).run P w = .ok v w) :
    stepG P main (G { b.at a todo with mode := .returning } (c :: cs)) w = .go (G (c.finish v) cs) w (seen P b.fn ((results fn a.tmps).events P w #[]) ++ #[]) := by
  have e : (results fn a.tmps).runT P w #[] = (.ok v w, (results fn a.tmps).events P w #[]) := by
    rw [← hr]
    exact Prod.ext (Sem.runT_fst ..) rfl
  simp only [G, stepG, unwind, Frame.at, hd, hf, e, doReturn, hn, GStep.after]
theorem opsC_callW (T : Terms R D) {fn : FuncId} {Q : Exit → Act → World → Prop} {a : Act} {w : World} {ops : Array Oper} {i : Nat} {rest : List Nat} {o : Oper} {f : FuncId} {args : Array Operand} {ats : Array TypeId} {nf n : Nat} {Post : Value → World → Prop}
    (ho : ops[i]? = some o) (hw : Region.wanted o (yielded ops a.tmps) = true) (hop : o.op = .call { callee := .value (.func f), args, argTypes := ats })
    (hcall : CallsW P main R D f (args.map a.eval) nf w Post) (hnext : ∀ v w', Post v w' → OpsC P main R D fn ops rest n Q (a.put o.dst v) w') : OpsC P main R D fn ops (i :: rest) (n + nf + 3) Q a w := by
  intro b k cs Stop m hb hk hc
  obtain ⟨fn', c, hf, hname, hbody, hwp⟩ := hcall
  have hfin : ∀ v, (b.at a (.inRegion ops (i :: rest) :: k)).finish v = b.at (a.put o.dst v) (.inRegion ops rest :: k) := fun v => by rw [Frame.finish_at, ho]; rfl
  have hleave : ∀ (a' : Act) (w' : World) (todo : List Item), bodyPostW P R D f fn' Post .ret a' w' →
      Goes P main R D Stop (m + n + 1) (G { (base f).at a' todo with mode := .returning } (b.at a (.inRegion ops (i :: rest) :: k) :: cs)) w' := by
    rintro a' w' todo ⟨hd, hr⟩
    refine Goes.step rfl fun w₁ h₁ => ?_
    obtain ⟨v, h1, h2, h3⟩ := hr w₁ h₁
    rw [stepG_leaveW (b := base f) rfl hd hf h1, hfin]
    exact ⟨by simpa [base] using h2, hnext v w₁ h3 b k cs Stop m hb hk hc⟩
  have hbodyG : Goes P main R D Stop (m + n + 2 + nf) (G ((base f).at { tmps := args.map a.eval ++ Array.replicate (fn'.ntmps - (args.map a.eval).size) undef, defers := [] } [.code c]) (b.at a (.inRegion ops (i :: rest) :: k) :: cs)) w := by
    refine hwp (base f) [] _ Stop (m + n + 2) rfl (by simp [base]) fun e a' w' q => ?_
    cases e with
    | normal => exact Goes.step rfl fun w₁ h₁ => by rw [stepG_end]; exact ⟨T.idle _, (hleave a' w' [] q).rely T.trans h₁⟩
    | ret => exact fun todo => (hleave a' w' todo q).more
    | exit id => exact q.elim
    | goto l => exact q.elim
    | panic ch => exact q.elim
    | outgrown => exact q.elim
  have e : m + (n + nf + 3) = (m + n + 2 + nf) + 1 := by omega
  rw [e]
  exact Goes.step rfl fun w₁ h₁ => goes_call ho hw hk hop hf hname hbody ⟨T.idle _, hbodyG.rely T.trans h₁⟩
end
/-! ### draw.Pair -/
def loV (h a b : Int) : Int := if posV h b < posV h a then posV h b else posV h a
def hiV (h a b : Int) : Int := IntKind.u64.wrap ((if posV h a < posV h b then posV h b else posV h a) + 1)
/-- What this goroutine's steps do: below B all stands; what is written lies from B on. -/
def Stl (B c : Nat) (l : Loc) : Prop := (∃ a : Addr, l = .cell a ∧ a.block < B) ∨ l = .obj c
def EvR (B : Nat) (e : Event) : Prop := (∀ m, e.loc = .mark m → Neutral m) ∧ (e.write = true → ∃ a : Addr, e.loc = .cell a ∧ B ≤ a.block)
def DR (B : Nat) (w w' : World) (es : Array Event) : Prop := (∀ b, b < B → w'.heap[b]? = w.heap[b]?) ∧ ∀ e ∈ es, EvR B e
theorem evR_cell {B : Nat} (a : Addr) (wr sy : Bool) (h : wr = true → B ≤ a.block) : EvR B ⟨.cell a, wr, sy⟩ := ⟨fun m hm => (by cases hm), fun hw => ⟨a, rfl, h hw⟩⟩
theorem HB.below2 {c B M : Nat} {w0 : World} {v : Value} {n : Nat} {xs : List Value} {w : World} {N : Nat} {cs : Array Value} {t : TypeId} (h : HB c B M w0 v n xs N cs t w) (i j : Nat) (x y : Value) : ∀ b, b < B → ((w.setCell ⟨N, i, none⟩ x).setCell ⟨N, j, none⟩ y).heap[b]? = w.heap[b]? := fun b hb => by
  have hne : b ≠ N := by have := h.hr.BM; have := h.MN; omega
  rw [Below.heap_setCell _ _ _ _ hne, Below.heap_setCell _ _ _ _ hne]
theorem HB.ge {c B M : Nat} {w0 : World} {v : Value} {n : Nat} {xs : List Value} {w : World} {N : Nat} {cs : Array Value} {t : TypeId} (h : HB c B M w0 v n xs N cs t w) : B ≤ N := by have := h.hr.BM; have := h.MN; omega
theorem termsR (B c : Nat) : Terms (Go.Conc.Aside c) (DR B) := ⟨fun _ _ _ h k => h.trans k, fun _ => ⟨fun _ _ => rfl, by simp⟩⟩
attribute [local go_sem] max2_int min2_int max_two min_two
set_option maxHeartbeats 4000000 in
set_option maxRecDepth 100000 in
theorem pair_c (c B : Nat) : ∃ k, ∀ (M : Nat) (w0 : World) (vo : Value) (n : Nat) (xs : List Value) (h : Int) (h0 : 0 ≤ h) (h1 : h ≤ 63) (d1 d2 : Int) (w : World), HR c B M w0 vo n xs w →
    CallsW Try.prog main (Go.Conc.Aside c) (DR B) 12 #[.int .i64 h, .int .u64 d1, .int .u64 d2] k w fun v w' =>
      v = .tuple #[.agg #[.int .u64 (loV h d1 d2), .int .u64 (hiV h d1 d2)], .int .i64 0] ∧ HR c B M w0 vo n xs w' := by
  have hu29 := Try.underlying29
  have T := termsR B c
  obtain ⟨kp, hp⟩ := position_c (main := main) T
  co_apply Exists.intro
  intro M w0 vo n xs h h0 h1 d1 d2 w hF
  co_apply callsW_of_wpC Try.func12 (by rfl) rfl
  simp only [Try.ntmps12, List.size_toArray, List.length_cons, List.length_nil, Nat.reduceAdd, Nat.reduceSub, Array.replicate_succ, Array.replicate_zero, List.push_toArray, List.append_toArray, List.nil_append, List.cons_append]
  co_apply wpC_seq T
  co_reg T
  co_opw HR.rely hF (skip) (refine ⟨fun b hb => Below.heap_alloc _ _ _ (by have := hF.sz; have := hF.BM; omega), ?_⟩; co_evs (skip))
  have hB := hF.made #[.int .u64 0, .int .u64 0] 29
  clear hF
  co_go T HB.rely hB (co_quiet T)
  co_apply opsC_call T rfl (by rfl) rfl
  · walk_nrm
    exact hp h h0 h1 d1 _ HB.rely _ hB
  rintro v w' ⟨rfl, hB'⟩
  clear hB
  walk_nrm
  co_go T HB.rely hB' (co_quiet T)
  co_apply opsC_call T rfl (by rfl) rfl
  · walk_nrm
    exact hp h h0 h1 d2 _ HB.rely _ hB'
  rintro v w' ⟨rfl, hB⟩
  clear hB'
  walk_nrm
  co_go T HB.rely hB (co_quiet T)
  co_apply wpC_cond T (t := false)
  · rfl
  simp only [Bool.false_eq_true, if_false]
  co_go T HB.rely hB (co_quiet T)
  co_opw HB.rely hB (have hc0 : _ = some (Value.int .u64 0) := (blk_cell hB.blk 0).trans rfl; have hc1 : _ = some (Value.int .u64 0) := (blk_cell hB.blk 1).trans rfl; have hz0 := blk_frozen hB.blk 0; have hz1 := blk_frozen hB.blk 1) (refine ⟨hB.below2 0 1 _ _, fun e he => ?_⟩; have hm := mem_listed he; simp [go_sem, *] at hm; rcases hm with rfl | rfl <;> exact evR_cell _ _ _ fun _ => hB.ge)
  replace hB := (hB.set 0 (.int .u64 (loV h d1 d2))).set 1 (.int .u64 (hiV h d1 d2))
  clear hc0 hc1 hz0 hz1
  co_go T HB.rely hB (co_quiet T)
  refine ⟨rfl, fun w₁ hr => ?_⟩
  have hB1 := hB.rely hr
  refine ⟨_, results_ct rfl _ _ _ 29 #[.int .u64 (loV h d1 d2), .int .u64 (hiV h d1 d2)] (0, 0) _ rfl hB1.blk Try.underlying29 rfl (by kernel_rfl), ⟨fun _ _ => rfl, ?_⟩, rfl, hB1.hr⟩
  intro e he
  have hm := mem_seen he
  have hc0 : w₁.cell? ⟨_, 0, none⟩ = some (Value.int .u64 (loV h d1 d2)) := (blk_cell hB1.blk 0).trans rfl
  have hc1 : w₁.cell? ⟨_, 1, none⟩ = some (Value.int .u64 (hiV h d1 d2)) := (blk_cell hB1.blk 1).trans rfl
  have hi29 : (Try.prog.info? 29).map (·.size) = some 2 := by kernel_rfl
  simp [results, Try.f12, go_sem, hu29, hc0, hc1] at hm
  rcases hm with rfl | rfl <;> exact evR_cell _ _ _ fun h => by cases h
end Go.Proofs.Ytaeaacdjiijooaa.Co

namespace Go.Proofs.Ytaeaacdjiijooaa.Co
open Go.Conc Go.RowKit Go.Proofs.YtaeaacdjiijooaaW.PrintWords Go.Proofs.YtaeaacdjiijooaaW.PrintLast Go.Proofs.YtaeaacdjiijooaaW.PrintMore
set_option linter.unusedVariables false
set_option linter.unusedSimpArgs false
/-- The loop's body in draw.Plan; its first region (the receive); what stands behind it. -/
noncomputable def loopX : Code := match Try.f14.body with
  | some (.seq _ (.seq _ (.seq _ (.seq _ (.seq _ (.seq (.seq _ (.block _ (.loop x))) _)))))) => x
  | _ => .skip
noncomputable def opsR : Array Oper := match loopX with | .seq (.region _ ops _) _ => ops | _ => #[]
noncomputable def restR : Code := match loopX with | .seq _ y => y | _ => .skip
theorem loopX_eq : loopX = .seq (.region 9 opsR false) restR := rfl
/-- The slots of draw.Plan in its loop. -/
def TP (h : Int) (A : Option Addr) (l cp c : Nat) (v : Value) (J : Nat → Value) : Array Value :=
  #[.int .i64 h, .slice A l cp, J 2, J 3, J 4, J 5, .chan (some c), v, J 8, J 9, J 10, J 11, J 12, J 13, J 14, J 15, J 16, J 17, J 18, J 19, J 20, J 21, J 22, .chan (some c), J 24, J 25, J 26, J 27, J 28, J 29, J 30, J 31, J 32, J 33, J 34, J 35, J 36, J 37, J 38, J 39, J 40]
/-- Behind a round. -/
def EndR (c B : Nat) (w0 : World) (h : Int) (A : Option Addr) (l cp n : Nat) (xs : List Value) (x y : Int) : Exit → Act → World → Prop
  | .normal, a, w => ∃ (M : Nat) (v : Value) (J : Nat → Value), a = { tmps := TP h A l cp c v J, defers := [] } ∧ HR c B M w0 v (n + 1) (xs ++ [.int .u64 (loV h x y), .int .u64 (hiV h x y)]) w
  | _, _, _ => False
theorem endR_mk {c B : Nat} {w0 : World} {h : Int} {A : Option Addr} {l cp n : Nat} {xs : List Value} {x y : Int} {w : World} {M : Nat} {v : Value} (T : Array Value) (hT : T = TP h A l cp c v (fun i => T.getD i undef)) (hF : HR c B M w0 v (n + 1) (xs ++ [.int .u64 (loV h x y), .int .u64 (hiV h x y)]) w) : EndR c B w0 h A l cp n xs x y .normal { tmps := T, defers := [] } w :=
  ⟨M, v, fun i => T.getD i undef, by rw [← hT], hF⟩
attribute [local go_sem] max2_int min2_int max_two min_two
set_option maxHeartbeats 4000000 in
set_option maxRecDepth 100000 in
theorem round_c (c B : Nat) : ∃ n n2, ∀ (M : Nat) (w0 : World) (v : Value) (m : Nat) (xs : List Value) (h : Int) (h0 : 0 ≤ h) (h1 : h ≤ 63) (A : Option Addr) (l cp : Nat) (J : Nat → Value) (x y : Int) (hm : m < 2000) (w : World), HR c B M w0 v m xs w →
    OpsC Try.prog true (Go.Conc.Aside c) (DR B) 14 opsR [1] n (Exit.then (fun a' w' => restR.wpC Try.prog true (Go.Conc.Aside c) (DR B) 14 n2 (EndR c B w0 h A l cp m xs x y) a' w') (EndR c B w0 h A l cp m xs x y))
      { tmps := TP h A l cp c v (fun i => if i = 24 then .tuple #[.agg #[.int .u64 x, .int .u64 y], .bool true] else J i), defers := [] } w := by
  have hu29 := Try.underlying29
  have hu64 := Try.underlying64
  have hu36 := Try.underlying36
  obtain ⟨i0, hi, hz0, hz1, hz2⟩ := info_parts (P := Try.prog) (show (Try.prog.info? 29).map (fun i => (i.zero, i.size, i.bytes)) = some (some (.agg #[.int .u64 0, .int .u64 0]), 2, 16) by kernel_rfl)
  have T := termsR B c
  obtain ⟨kp, hp⟩ := pair_c (main := true) c B
  co_apply Exists.intro
  co_apply Exists.intro
  intro M w0 v m xs h h0 h1 A l cp J x y hm w hF
  unfold opsR restR loopX TP
  simp only [Try.f14, if_true, if_false, reduceIte, Nat.reduceEqDiff]
  co_op HR.rely hF (co_quiet T)
  co_apply opsC_nil T
  co_then
  co_apply wpC_seq T
  co_apply wpC_cond T (t := true)
  · rfl
  simp only [if_true]
  co_apply wpC_skip T
  co_then
  co_apply wpC_block T
  co_apply wpC_seq T
  co_reg T
  co_op HR.rely hF (co_quiet T)
  co_opw HR.rely hF (skip) (refine ⟨fun b hb => Below.heap_alloc _ _ _ (by have := hF.sz; have := hF.BM; omega), ?_⟩; co_evs (skip))
  have hB := hF.made #[.int .u64 0, .int .u64 0] 64
  clear hF
  co_opw HB.rely hB (have hc0 : _ = some (Value.int .u64 0) := (blk_cell hB.blk 0).trans rfl; have hc1 : _ = some (Value.int .u64 0) := (blk_cell hB.blk 1).trans rfl; have hz0 := blk_frozen hB.blk 0; have hz1 := blk_frozen hB.blk 1) (refine ⟨hB.below2 0 1 _ _, fun e he => ?_⟩; have hm := mem_listed he; simp [go_sem, *] at hm; rcases hm with rfl | rfl <;> exact evR_cell _ _ _ fun _ => hB.ge)
  replace hB := (hB.set 0 (.int .u64 x)).set 1 (.int .u64 y)
  clear hc0 hc1 hz0 hz1
  co_apply opsC_nil T
  co_then
  co_apply wpC_seq T
  co_reg T
  co_op HB.rely hB (co_quiet T)
  co_opw HB.rely hB (skip) (rw [listed_nil (by simp [go_sem, events_indexAt_array 64 22 2 _ _ _ hu64])]; exact Terms.idle T _)
  co_opw HB.rely hB (have hc0 : _ = some (Value.int .u64 x) := (blk_cell hB.blk 0).trans rfl) (refine ⟨fun _ _ => rfl, fun e he => ?_⟩; have hm := mem_listed he; simp [go_sem, *] at hm; subst hm; exact evR_cell _ _ _ fun h => (by cases h))
  clear hc0
  co_opw HB.rely hB (skip) (rw [listed_nil (by simp [go_sem, events_indexAt_array 64 22 2 _ _ _ hu64])]; exact Terms.idle T _)
  co_opw HB.rely hB (have hc0 : _ = some (Value.int .u64 y) := (blk_cell hB.blk 1).trans rfl) (refine ⟨fun _ _ => rfl, fun e he => ?_⟩; have hm := mem_listed he; simp [go_sem, *] at hm; subst hm; exact evR_cell _ _ _ fun h => (by cases h))
  clear hc0
  have hF := hB.hr
  clear hB
  co_apply opsC_callW T rfl (by rfl) rfl
  · walk_nrm
    exact hp M w0 v m xs h h0 h1 x y _ hF
  rintro r w' ⟨rfl, hF'⟩
  clear hF
  walk_nrm
  co_op HR.rely hF' (co_quiet T)
  co_op HR.rely hF' (co_quiet T)
  co_op HR.rely hF' (co_quiet T)
  co_opw HR.rely hF' (skip) (refine ⟨fun b hb => Below.heap_alloc _ _ _ (by have := hF'.sz; have := hF'.BM; omega), ?_⟩; co_evs (skip))
  have hB := hF'.made #[.int .u64 0, .int .u64 0] 29
  clear hF'
  co_opw HB.rely hB (have hc0 : _ = some (Value.int .u64 0) := (blk_cell hB.blk 0).trans rfl; have hc1 : _ = some (Value.int .u64 0) := (blk_cell hB.blk 1).trans rfl; have hz0 := blk_frozen hB.blk 0; have hz1 := blk_frozen hB.blk 1) (refine ⟨hB.below2 0 1 _ _, fun e he => ?_⟩; have hm := mem_listed he; simp [go_sem, *] at hm; rcases hm with rfl | rfl <;> exact evR_cell _ _ _ fun _ => hB.ge)
  replace hB := (hB.set 0 (.int .u64 (loV h x y))).set 1 (.int .u64 (hiV h x y))
  clear hc0 hc1 hz0 hz1
  co_op HB.rely hB (co_quiet T)
  co_apply opsC_nil T
  co_then
  co_reg T
  co_op HB.rely hB (co_quiet T)
  co_opw HB.rely hB (have hc0 : _ = some (Value.int .u64 (loV h x y)) := (blk_cell hB.blk 0).trans rfl; have hc1 : _ = some (Value.int .u64 (hiV h x y)) := (blk_cell hB.blk 1).trans rfl) (refine ⟨fun _ _ => rfl, fun e he => ?_⟩; have hm := mem_listed he; simp [go_sem, *] at hm; rcases hm with rfl | rfl <;> exact evR_cell _ _ _ fun h => (by cases h))
  clear hc0 hc1
  have hF := hB.hr
  clear hB
  co_opw HR.rely hF (skip) (refine ⟨fun b hb => Below.heap_alloc _ _ _ (by have := hF.sz; have := hF.BM; omega), ?_⟩; co_evs (skip))
  have hB := hF.made #[.int .u64 (loV h x y), .int .u64 (hiV h x y)] 29
  clear hF
  rename_i wN
  -- append
  co_apply opsC_cons_k rfl (by rfl)
  intro w₂ hR K hK
  replace hB := hB.rely hR
  clear hR
  have hNN := hB.ge
  have hc0 : w₂.cell? ⟨wN.heap.size, 0, none⟩ = some (Value.int .u64 (loV h x y)) := (blk_cell hB.blk 0).trans rfl
  have hc1 : w₂.cell? ⟨wN.heap.size, 1, none⟩ = some (Value.int .u64 (hiV h x y)) := (blk_cell hB.blk 1).trans rfl
  have hnews : ∀ j u, [Value.int .u64 (loV h x y), Value.int .u64 (hiV h x y)][j]? = some u → w₂.cell? (Addr.add ⟨wN.heap.size, 0, none⟩ j) = some u := by
    intro j u hj
    match j, hj with
    | 0, hj => simp at hj; subst hj; exact hc0
    | 1, hj => simp at hj; subst hj; exact hc1
    | j + 2, hj => simp at hj
  have h1c : ∀ u ∈ [Value.int .u64 (loV h x y), Value.int .u64 (hiV h x y)], u.oneCell' = true := by
    intro u hu
    simp at hu
    rcases hu with rfl | rfl <;> rfl
  have hsz : B ≤ w₂.heap.size := Nat.le_trans hB.hr.BM hB.hr.sz
  have hml : m + 1 ≤ maxLen := by simp only [maxLen]; omega
  have hev := events_append_where (P := Try.prog) w₂ B 36 36 29 i0 _ 2 16 hu36 hi hz0 hz1 hz2 v m xs hB.hr.own ⟨wN.heap.size, 0, none⟩ 1 1 _ rfl hnews h1c hml (by omega)
  obtain ⟨v', w', hrun, hown', hgr, _⟩ := run_append_own (P := Try.prog) (w := w₂) B 36 36 29 i0 _ 2 16 hu36 hi hz0 hz1 hz2 rfl (by decide) v m xs hB.hr.own ⟨wN.heap.size, 0, none⟩ 1 1 _ rfl hnews h1c hml (by omega) hsz
  have hown := ownBlock_ge hB.hr.own
  refine uponK_append (.tmp 36) (.tmp 38) 36 rfl rfl rfl hrun (hK _ _ ⟨⟨fun b hb => hgr.block b (by omega) (fun e => by have := hown b e.symm; omega), fun e he => ?_⟩, ?_⟩)
  · have he' := mem_listed he
    rw [events_append_op (.tmp 36) (.tmp 38) 36 rfl rfl rfl] at he'
    rcases hev e he' with ⟨ad, hl, hc⟩ | ⟨mk, rfl, hmk⟩
    · refine ⟨fun m' hm' => (by rw [hl] at hm'; cases hm'), fun hw => ⟨ad, hl, ?_⟩⟩
      rcases hc with ⟨hw', _⟩ | hc
      · rw [hw'] at hw; cases hw
      · exact hown _ hc.symm
    · exact ⟨fun m' hm' => (by cases hm'; exact hmk), fun hw => (by cases hw)⟩
  have hF : HR c B w'.heap.size w0 v' (m + 1) (xs ++ [Value.int .u64 (loV h x y), Value.int .u64 (hiV h x y)]) w' := by
    refine ⟨hB.hr.cB, by have := hgr.size; omega, Nat.le_refl _, fun b hb hc => ?_, hgr.os.trans hB.hr.os, hgr.tape.trans hB.hr.tape, hgr.output.trans hB.hr.output, hown', fun g hg => ?_⟩
    · exact (hgr.block b (by omega) (fun e => by have := hown b e.symm; omega)).trans (hB.hr.old b hb hc)
    · rcases hown'.2 with ⟨rfl, _⟩ | ⟨g', cap, cur, rfl, _, hg', _⟩
      · cases hg
      · injection hg with e
        subst e
        exact blk_lt hg'
  clear hK hB hev hgr hrun hc0 hc1 hnews
  walk_nrm
  co_op HR.rely hF (co_quiet T)
  co_apply opsC_nil T
  co_then
  exact endR_mk _ rfl hF
/-- The guarantee that the pipeline asks. -/
def SB (c B : Nat) (w0 w : World) : Prop := ∀ b, b < B → b ≠ c → w.heap[b]? = w0.heap[b]?
theorem da_of_dr {c B : Nat} (hc : c < B) (w0 : World) {w w' : World} {es : Array Event} (h : DR B w w' es) : DA c (SB c B w0) (Go.Proofs.Ytaeaacdjiijooaa.Lift.Own (Stl B c)) w w' es := by
  refine ⟨fun hS b hb hne => (h.1 b hb).trans (hS b hb hne), h.1 c hc, fun e he => ⟨(h.2 e he).1, fun hw => ?_⟩⟩
  obtain ⟨a, hl, hB⟩ := (h.2 e he).2 hw
  rintro (⟨a', h', hlt⟩ | h')
  · rw [hl] at h'; cases h'; omega
  · rw [hl] at h'; cases h'
theorem goes_weaken {P : Program} {main : Bool} {R : World → World → Prop} {D D' : World → World → Array Event → Prop} {Stop : Goroutine → World → Prop} (hD : ∀ w w' es, D w w' es → D' w w' es) :
    ∀ {n : Nat} {g : Goroutine} {w : World}, Goes P main R D Stop n g w → Goes P main R D' Stop n g w := by
  intro n
  induction n with
  | zero => exact fun h => h
  | succ n ih =>
    intro g w h
    rcases h with h | ⟨hs, h⟩
    · exact .inl h
    · refine .inr ⟨hs, fun w₁ h₁ => ?_⟩
      have := h w₁ h₁
      revert this
      cases stepG P main g w₁ <;> simp only [GStep.goes, imp_self]
      exact fun ⟨d, x⟩ => ⟨hD _ _ _ d, ih x⟩
end Go.Proofs.Ytaeaacdjiijooaa.Co

namespace Go.Proofs.Ytaeaacdjiijooaa.Co
open Go.Conc Go.RowKit Go.Proofs.Ytaeaacdjiijooaa.Lift Go.Proofs.YtaeaacdjiijooaaW.PrintWords Go.Proofs.YtaeaacdjiijooaaW.PrintLast Go.Proofs.YtaeaacdjiijooaaW.PrintMore
set_option linter.unusedVariables false
set_option linter.unusedSimpArgs false
noncomputable def tailP : Code := match Try.f14.body with
  | some (.seq _ (.seq _ (.seq _ (.seq _ (.seq _ (.seq _ t)))))) => t
  | _ => .skip
/-- draw.Plan in its loop, at the receive ([0, 1]) or behind it ([1]). -/
noncomputable def gR (h : Int) (A : Option Addr) (l cp c : Nat) (v : Value) (J : Nat → Value) (rest : List Nat) (cs : List Frame) : Goroutine :=
  G ((base 14).at ⟨TP h A l cp c v J, []⟩ [.inRegion opsR rest, .code restR, .inLoop loopX, .inBlock 1, .code tailP]) cs
def zP : Value := .agg #[.int .u64 0, .int .u64 0]
def encP (p : Int × Int) : Value := .agg #[.int .u64 p.1, .int .u64 p.2]
theorem loud14 : (Try.prog.funcs[14]?).any (·.norace) = false := by kernel_rfl
/-- AT THE RECEIVE. -/
theorem comm_R (h : Int) (A : Option Addr) (l cp c : Nat) (v : Value) (J : Nat → Value) (cs : List Frame) (w : World) :
    stepG Try.prog true (gR h A l cp c v J [0, 1] cs) w = .comm (core (gR h A l cp c v J [0, 1] cs)) #[rcase c zP] true (.recv true) w #[] := by
  have hu := Try.underlying61
  obtain ⟨i0, hi, hz0, hz1, hz2⟩ := info_parts (P := Try.prog) (show (Try.prog.info? 64).map (fun i => (i.zero, i.size, i.bytes)) = some (some (.agg #[.int .u64 0, .int .u64 0]), 2, 16) by kernel_rfl)
  simp only [gR, opsR, loopX, Try.f14, TP, core_G]
  rw [stepG_comm (cases := #[rcase c zP]) (blocking := true) (shape := .recv true) (w' := w) rfl rfl (by decide) (by simp [go_sem, rcase, zP, hi, hz0])]
  simp [listed, go_sem, seen, hi, hz0]
theorem served_R (h : Int) (A : Option Addr) (l cp c : Nat) (v : Value) (J : Nat → Value) (cs : List Frame) (x : Value) :
    Go.Conc.served (core (gR h A l cp c v J [0, 1] cs)) x = gR h A l cp c v (fun i => if i = 24 then x else J i) [1] cs := by
  simp only [gR, opsR, loopX, Try.f14, TP, core_G, served_G]
  rfl
def spanC (h : Int) (p : Int × Int) : List Value := [.int .u64 (loV h p.1 p.2), .int .u64 (hiV h p.1 p.2)]
/-- The channel has been found closed. -/
def FinR (h : Int) (A : Option Addr) (l cp c B : Nat) (w0 : World) (n : Nat) (xs : List Value) (cs : List Frame) (g : Goroutine) (w : World) : Prop :=
  ∃ (M : Nat) (v : Value) (J : Nat → Value), g = gR h A l cp c v J [1] cs ∧ J 24 = .tuple #[zP, .bool false] ∧ HR c B M w0 v n xs w
theorem stopA_R (h : Int) (h0 : 0 ≤ h) (h1 : h ≤ 63) (A : Option Addr) (l cp c B : Nat) (w0 : World) (cs : List Frame) : ∀ (ps : List (Int × Int)) (m M : Nat) (xs : List Value) (v : Value) (J : Nat → Value) (w : World),
    HR c B M w0 v m xs w → m + ps.length < 2000 →
      StopA Try.prog c (SB c B w0) (Own (Stl B c)) zP (FinR h A l cp c B w0 (m + ps.length) (xs ++ ps.flatMap (spanC h)) cs) (ps.map encP) (gR h A l cp c v J [0, 1] cs) w := by
  obtain ⟨n, n2, hround⟩ := round_c c B
  have T := termsR B c
  intro ps
  induction ps with
  | nil =>
    intro m M xs v J w hF hlt
    refine ⟨rfl, #[], comm_R .., by simp, fun w₂ h₂ => ?_⟩
    dsimp only
    rw [served_R]
    refine ⟨M, v, _, rfl, by simp, ?_⟩
    simp only [List.flatMap_nil, List.append_nil, List.length_nil, Nat.add_zero]
    exact hF.rely h₂
  | cons p ps ih =>
    intro m M xs v J w hF hlt
    simp only [List.length_cons] at hlt
    refine ⟨rfl, #[], comm_R .., by simp, fun w₂ h₂ => ?_⟩
    dsimp only
    rw [served_R]
    refine (recvs_iff ..).2 ⟨0 + 3 + n2 + n, goes_weaken (D := DR B) (fun w w' es => da_of_dr hF.cB w0) ?_⟩
    have hO := hround M w0 v m xs h h0 h1 A l cp J p.1 p.2 (by omega) w₂ (hF.rely h₂)
    refine hO (base 14) (.code restR :: .inLoop loopX :: .inBlock 1 :: .code tailP :: []) cs _ (0 + 3 + n2) rfl (by simp [base]) fun e a' w' q => ?_
    cases e with
    | normal =>
      refine wpC_goes (m := 0 + 3) q rfl (by simp [base]) fun e a'' w'' q' => ?_
      cases e with
      | normal =>
        obtain ⟨M', v', J', rfl, hF'⟩ := q'
        show Goes _ _ _ _ _ _ _ _
        refine Goes.step rfl fun w₃ h₃ => ?_
        rw [stepG_inLoop]
        refine ⟨T.idle _, ?_⟩
        have hF' := hF'.rely h₃
        rw [show Item.code loopX = .code (.seq (.region 9 opsR false) restR) from rfl]
        refine Goes.step rfl fun w₄ h₄ => ?_
        rw [stepG_seq]
        refine ⟨T.idle _, ?_⟩
        have hF' := hF'.rely h₄
        refine Goes.step rfl fun w₅ h₅ => ?_
        rw [stepG_region]
        refine ⟨T.idle _, ?_⟩
        have hF' := hF'.rely h₅
        refine Goes.stop fun w₆ h₆ => ?_
        have := ih (m + 1) M' (xs ++ spanC h p) v' J' w₆ (hF'.rely h₆) (by omega)
        rw [show m + 1 + ps.length = m + (p :: ps).length by simp; omega, List.append_assoc, show spanC h p ++ List.flatMap (spanC h) ps = List.flatMap (spanC h) (p :: ps) from rfl] at this
        exact this
      | _ => exact q'.elim
    | _ => exact q.elim
end Go.Proofs.Ytaeaacdjiijooaa.Co

namespace Go.Proofs.Ytaeaacdjiijooaa.Co
open Go.Conc Go.RowKit Go.Proofs.Ytaeaacdjiijooaa.Lift Go.Proofs.YtaeaacdjiijooaaW.PrintWords Go.Proofs.YtaeaacdjiijooaaW.PrintLast Go.Proofs.YtaeaacdjiijooaaW.PrintMore
set_option linter.unusedVariables false
set_option linter.unusedSimpArgs false
/-! ### a region that draws its order and ends in a communication -/
section
variable {P : Program} {main : Bool} {R : World → World → Prop} {D : World → World → Array Event → Prop} {fn : FuncId} {ops : Array Oper} {md : Region.Mode} {z : Nat}
theorem draw_walk (T : Terms R D) {I : Nat → Array Bool → Act → World → Prop} {Done : Act → World → Prop}
    (hR : ∀ f l a w w₁, I f l a w → R w w₁ → I f l a w₁) (h0 : ∀ l a w, ¬ I 0 l a w) (hne : ∀ f l a w, I (f + 1) l a w → Region.ready md ops l ≠ [])
    (hz : ∀ f l a w, I (f + 1) l a w → z ∈ Region.ready md ops l → Done a w ∧ f = 0)
    (hstep : ∀ f l a w i, I (f + 1) l a w → i ∈ Region.ready md ops l → i ≠ z → OpC P R D fn ops i (fun a' w' => I f (l.setIfInBounds i true) a' w') a w)
    {b : Frame} {k : List Item} {cs : List Frame} {Stop : Goroutine → World → Prop} {m : Nat} (hb : b.fn = fn) (hk : b.kind ≠ .early) (hD : ∀ a w, Done a w → Goes P main R D Stop m (G (b.at a (.inRegion ops [z] :: k)) cs) w) :
    ∀ (f t : Nat) (l : Array Bool) (a : Act) (w : World), I f l a w → Goes P main R D Stop (m + f) (G (b.at a (.inRegion ops (Region.linearise.go md ops f t l []) :: k)) cs) w := by
  intro f
  induction f with
  | zero => exact fun t l a w h => absurd h (h0 l a w)
  | succ f ih =>
    intro t l a w h
    simp only [Region.linearise.go]
    change Goes P main R D Stop _ (G (b.at a (.inRegion ops (match (Region.ready md ops l)[t % (Region.ready md ops l).length]? with
      | some i => Region.linearise.go md ops f (t / (Region.ready md ops l).length) (l.setIfInBounds i true) [i]
      | none => [].reverse) :: k)) cs) w
    cases hi : (Region.ready md ops l)[t % (Region.ready md ops l).length]? with
    | none =>
      exfalso
      have hn := hne f l a w h
      cases hr : Region.ready md ops l with
      | nil => exact hn hr
      | cons x xs =>
        rw [hr] at hi
        have hlt : t % (x :: xs).length < (x :: xs).length := Nat.mod_lt _ (by simp)
        rw [List.getElem?_eq_none_iff] at hi
        omega
    | some i =>
      simp only []
      rw [linearise_go_acc, List.reverse_singleton, List.singleton_append]
      have hmem := List.mem_of_getElem? hi
      by_cases hiz : i = z
      · subst hiz
        obtain ⟨hd, rfl⟩ := hz f l a w h hmem
        exact (hD a w hd).mono (by omega)
      · have ho := hstep f l a w i h hmem hiz
        unfold OpC at ho
        split at ho
        · exact ho.elim
        · rename_i o hoo
          split at ho
          · rename_i hw
            refine Goes.step rfl fun w₁ h₁ => goes_oper hoo hw hk ?_
            have := ho w₁ h₁
            revert this
            cases (execOp a.eval o).run P w₁ with
            | ok x w' => cases x <;> first | exact fun ⟨d, g⟩ => ⟨hb ▸ d, ih _ _ _ _ g⟩ | exact fun x => x
            | halt _ _ => exact fun x => x
          · rename_i hw
            refine Goes.step rfl fun w₁ h₁ => ?_
            rw [stepG_unwanted hoo (by simpa using hw)]
            exact ⟨T.idle _, (ih _ _ _ _ ho).rely T.trans h₁⟩
end
/-! ### draw.pairs -/
noncomputable def loopB : Code := match Try.f29.body with | some (.seq _ (.seq _ (.block _ (.loop x)))) => x | _ => .skip
noncomputable def opsB : Array Oper := match loopB with | .seq _ (.seq (.block _ (.region _ ops _)) _) => ops | _ => #[]
noncomputable def incB : Code := match loopB with | .seq _ (.seq _ y) => y | _ => .skip
theorem opsB_size : opsB.size = 12 := rfl
def b29 : Frame := { (default : Frame) with fn := 29, kind := .deferred }
def pt (ad : Addr) (n : Nat) : Addr := ad.add n
/-- The slots of draw.pairs while its region runs: slot 13 + k holds its value where operation k has been carried out. -/
def TD (ad : Addr) (l cp c : Nat) (i : Int) (ds : List Int) (J : Nat → Value) (b0 b1 b2 b3 b4 b5 b6 b7 b8 b9 b10 : Bool) : Array Value :=
  #[.slice (some ad) l cp, .chan (some c), J 2, J 3, .int .i64 i, J 5, J 6, J 7, J 8, J 9, J 10, J 11, J 12, if b0 then .chan (some c) else J 13, if b1 then .slice (some ad) l cp else J 14, if b2 then .int .i64 i else J 15, if b3 then .pointer (some (pt ad i.toNat)) else J 16, if b4 then .int .u64 (ds.getD i.toNat 0) else J 17, if b5 then .slice (some ad) l cp else J 18, if b6 then .int .i64 i else J 19, if b7 then .int .i64 (i + 1) else J 20, if b8 then .pointer (some (pt ad (i.toNat + 1))) else J 21, if b9 then .int .u64 (ds.getD (i.toNat + 1) 0) else J 22, if b10 then .agg #[.int .u64 (ds.getD i.toNat 0), .int .u64 (ds.getD (i.toNat + 1) 0)] else J 23]
structure CL (b0 b1 b2 b3 b4 b5 b6 b7 b8 b9 b10 : Bool) : Prop where
  c3 : b3 = true → b1 = true ∧ b2 = true
  c4 : b4 = true → b3 = true
  c7 : b7 = true → b6 = true
  c8 : b8 = true → b5 = true ∧ b7 = true
  c9 : b9 = true → b8 = true
  c10 : b10 = true → b4 = true ∧ b9 = true
/-- What is held while the region runs. -/
def ID (c B : Nat) (w0 : World) (ad : Addr) (l cp : Nat) (i : Int) (ds : List Int) (J : Nat → Value) (dd : List Deferred) (f : Nat) (lst : Array Bool) (a : Act) (w : World) : Prop :=
  ∃ b0 b1 b2 b3 b4 b5 b6 b7 b8 b9 b10 : Bool, lst = #[b0, b1, b2, b3, b4, b5, b6, b7, b8, b9, b10, false] ∧ f + (b0.toNat + b1.toNat + b2.toNat + b3.toNat + b4.toNat + b5.toNat + b6.toNat + b7.toNat + b8.toNat + b9.toNat + b10.toNat) = 12 ∧ CL b0 b1 b2 b3 b4 b5 b6 b7 b8 b9 b10 ∧ a = { tmps := TD ad l cp c i ds J b0 b1 b2 b3 b4 b5 b6 b7 b8 b9 b10, defers := dd } ∧ SB c B w0 w
theorem opC_yield {P : Program} {R : World → World → Prop} {D : World → World → Array Event → Prop} {fn : FuncId} {ops : Array Oper} {i : Nat} {o : Oper} {a : Act} {w : World} {v : Value} {K : Act → World → Prop} (hi : ops[i]? = some o) (hw : Region.wanted o (yielded ops a.tmps) = true)
    (hv : ∀ w₁, R w w₁ → (∀ K : Result Next → Prop, K (.ok (.value v) w₁) → K ((execOp a.eval o).run P w₁)) ∧ D w₁ w₁ (listed P fn a o w₁)) (hK : ∀ w₁, R w w₁ → K (a.put o.dst v) w₁) : OpC P R D fn ops i K a w := by
  unfold OpC
  simp only [hi, hw, if_true]
  intro w₁ h₁
  rw [run_eq_of (hv w₁ h₁).1]
  exact ⟨(hv w₁ h₁).2, hK w₁ h₁⟩
/-- The child's guarantee, and its rely. -/
abbrev DD (B c : Nat) : World → World → Array Event → Prop := DBr (Own (Stl B c))
abbrev RD (c B : Nat) (w0 : World) : World → World → Prop := fun _ w₁ => SB c B w0 w₁
theorem termsD (c B : Nat) (w0 : World) : Terms (RD c B w0) (DD B c) := ⟨fun _ _ _ _ h => h, fun w => ⟨atRel_refl w, by simp⟩⟩
theorem dd_still {B c : Nat} {w : World} {es : Array Event} (h : es = #[]) : DD B c w w es := ⟨atRel_refl w, by subst h; simp⟩
theorem dd_read {B c : Nat} {w : World} {es : Array Event} {a : Addr} (ha : a.block < B) (h : ∀ e ∈ es, e = ⟨.cell a, false, false⟩) : DD B c w w es := ⟨atRel_refl w, fun e he => by
  rw [h e he]
  exact ⟨fun m hm => (by cases hm), rfl, fun hn => hn (.inl ⟨a, rfl, ha⟩)⟩⟩
/-- What the sender reads, as it stood at the go statement. -/
structure Src (c B : Nat) (w0 : World) (ad : Addr) (l : Nat) (ds : List Int) : Prop where
  low : ad.block < B
  ne : ad.block ≠ c
  el : ∀ j, j < l → w0.cell? (ad.add j) = some (.int .u64 (ds.getD j 0))
theorem Src.at {c B : Nat} {w0 w : World} {ad : Addr} {l : Nat} {ds : List Int} (h : Src c B w0 ad l ds) (hS : SB c B w0 w) {j : Nat} (hj : j < l) : w.cell? (ad.add j) = some (.int .u64 (ds.getD j 0)) := by
  rw [← h.el j hj]
  exact World.cell?_of_block (hS _ (by rw [Go.addBlock]; exact h.low) (by rw [Go.addBlock]; exact h.ne))
set_option maxHeartbeats 4000000 in
set_option maxRecDepth 100000 in
theorem step_D (c B : Nat) (w0 : World) (ad : Addr) (l cp : Nat) (i : Int) (ds : List Int) (J : Nat → Value) (dd : List Deferred) (hc : Src c B w0 ad l ds) (h0 : 0 ≤ i) (h1 : i + 1 < l) (hl : l ≤ 4096) :
    ∀ f lst a w j, ID c B w0 ad l cp i ds J dd (f + 1) lst a w → j ∈ Region.ready .any opsB lst → j ≠ 11 → OpC Try.prog (RD c B w0) (DD B c) 29 opsB j (fun a' w' => ID c B w0 ad l cp i ds J dd f (lst.setIfInBounds j true) a' w') a w := by
  have hu35 := Try.underlying35
  have hu64 := Try.underlying64
  have hw1 : IntKind.i64.wrap (i + 1) = i + 1 := by rw [IntKind.wrap_i64]; omega
  have hi0 : i < (l : Int) := by omega
  have hi1 : 0 ≤ i + 1 := by omega
  have ht1 : (i + 1).toNat = i.toNat + 1 := by omega
  rintro f lst a w j ⟨b0, b1, b2, b3, b4, b5, b6, b7, b8, b9, b10, rfl, hf, hcl, rfl, hS⟩ hj hne
  obtain ⟨hun, o, ho, hall⟩ := mem_ready.1 hj
  have hj12 : j < 12 := (Array.getElem?_eq_some_iff.1 ho).1
  have hjj : j = 0 ∨ j = 1 ∨ j = 2 ∨ j = 3 ∨ j = 4 ∨ j = 5 ∨ j = 6 ∨ j = 7 ∨ j = 8 ∨ j = 9 ∨ j = 10 := by omega
  rcases hjj with rfl | rfl | rfl | rfl | rfl | rfl | rfl | rfl | rfl | rfl | rfl
  · have hbk : b0 = false := by simpa using hun
    subst hbk
    refine opC_yield (o := opsB.getD 0 default) (v := .chan (some c)) rfl rfl (fun w₁ h₁ => ⟨fun K hK => ?_, ?_⟩) (fun w₁ h₁ => ⟨true, b1, b2, b3, b4, b5, b6, b7, b8, b9, b10, rfl, ?_, ?_, rfl, h₁⟩)
    · simp only [opsB, loopB, Try.f29, TD]
      go_simp
      exact hK
    · simp only [opsB, loopB, Try.f29]
      exact dd_still (listed_nil (by simp [go_sem, TD]))
    · simp at hf ⊢; omega
    · exact ⟨(by first | exact hcl.c3 | exact fun _ => rfl | exact fun _ => ⟨rfl, rfl⟩ | exact fun h => (by have h2 := hcl.c3 h; simp at h2)) , (by first | exact hcl.c4 | exact fun _ => rfl | exact fun _ => ⟨rfl, rfl⟩ | exact fun h => (by have h2 := hcl.c4 h; simp at h2)) , (by first | exact hcl.c7 | exact fun _ => rfl | exact fun _ => ⟨rfl, rfl⟩ | exact fun h => (by have h2 := hcl.c7 h; simp at h2)) , (by first | exact hcl.c8 | exact fun _ => rfl | exact fun _ => ⟨rfl, rfl⟩ | exact fun h => (by have h2 := hcl.c8 h; simp at h2)) , (by first | exact hcl.c9 | exact fun _ => rfl | exact fun _ => ⟨rfl, rfl⟩ | exact fun h => (by have h2 := hcl.c9 h; simp at h2)) , (by first | exact hcl.c10 | exact fun _ => rfl | exact fun _ => ⟨rfl, rfl⟩ | exact fun h => (by have h2 := hcl.c10 h; simp at h2))⟩
  · have hbk : b1 = false := by simpa using hun
    subst hbk
    refine opC_yield (o := opsB.getD 1 default) (v := .slice (some ad) l cp) rfl rfl (fun w₁ h₁ => ⟨fun K hK => ?_, ?_⟩) (fun w₁ h₁ => ⟨b0, true, b2, b3, b4, b5, b6, b7, b8, b9, b10, rfl, ?_, ?_, rfl, h₁⟩)
    · simp only [opsB, loopB, Try.f29, TD]
      go_simp
      exact hK
    · simp only [opsB, loopB, Try.f29]
      exact dd_still (listed_nil (by simp [go_sem, TD]))
    · simp at hf ⊢; omega
    · exact ⟨(by first | exact hcl.c3 | exact fun _ => rfl | exact fun _ => ⟨rfl, rfl⟩ | exact fun h => (by have h2 := hcl.c3 h; simp at h2)) , (by first | exact hcl.c4 | exact fun _ => rfl | exact fun _ => ⟨rfl, rfl⟩ | exact fun h => (by have h2 := hcl.c4 h; simp at h2)) , (by first | exact hcl.c7 | exact fun _ => rfl | exact fun _ => ⟨rfl, rfl⟩ | exact fun h => (by have h2 := hcl.c7 h; simp at h2)) , (by first | exact hcl.c8 | exact fun _ => rfl | exact fun _ => ⟨rfl, rfl⟩ | exact fun h => (by have h2 := hcl.c8 h; simp at h2)) , (by first | exact hcl.c9 | exact fun _ => rfl | exact fun _ => ⟨rfl, rfl⟩ | exact fun h => (by have h2 := hcl.c9 h; simp at h2)) , (by first | exact hcl.c10 | exact fun _ => rfl | exact fun _ => ⟨rfl, rfl⟩ | exact fun h => (by have h2 := hcl.c10 h; simp at h2))⟩
  · have hbk : b2 = false := by simpa using hun
    subst hbk
    refine opC_yield (o := opsB.getD 2 default) (v := .int .i64 i) rfl rfl (fun w₁ h₁ => ⟨fun K hK => ?_, ?_⟩) (fun w₁ h₁ => ⟨b0, b1, true, b3, b4, b5, b6, b7, b8, b9, b10, rfl, ?_, ?_, rfl, h₁⟩)
    · simp only [opsB, loopB, Try.f29, TD]
      go_simp
      exact hK
    · simp only [opsB, loopB, Try.f29]
      exact dd_still (listed_nil (by simp [go_sem, TD]))
    · simp at hf ⊢; omega
    · exact ⟨(by first | exact hcl.c3 | exact fun _ => rfl | exact fun _ => ⟨rfl, rfl⟩ | exact fun h => (by have h2 := hcl.c3 h; simp at h2)) , (by first | exact hcl.c4 | exact fun _ => rfl | exact fun _ => ⟨rfl, rfl⟩ | exact fun h => (by have h2 := hcl.c4 h; simp at h2)) , (by first | exact hcl.c7 | exact fun _ => rfl | exact fun _ => ⟨rfl, rfl⟩ | exact fun h => (by have h2 := hcl.c7 h; simp at h2)) , (by first | exact hcl.c8 | exact fun _ => rfl | exact fun _ => ⟨rfl, rfl⟩ | exact fun h => (by have h2 := hcl.c8 h; simp at h2)) , (by first | exact hcl.c9 | exact fun _ => rfl | exact fun _ => ⟨rfl, rfl⟩ | exact fun h => (by have h2 := hcl.c9 h; simp at h2)) , (by first | exact hcl.c10 | exact fun _ => rfl | exact fun _ => ⟨rfl, rfl⟩ | exact fun h => (by have h2 := hcl.c10 h; simp at h2))⟩
  · have hbk : b3 = false := by simpa using hun
    subst hbk
    have hdep : b1 = true ∧ b2 = true := by simpa [opsB, loopB, Try.f29, Region.binds] using (show ∀ e ∈ (opsB.getD 3 default).after, Region.binds .any e = true → _ from fun e he hb => hall e (by have : o = opsB.getD 3 default := (Option.some.inj ho).symm; rw [this]; exact he) hb)
    obtain ⟨rfl, rfl⟩ := hdep
    refine opC_yield (o := opsB.getD 3 default) (v := .pointer (some (pt ad i.toNat))) rfl rfl (fun w₁ h₁ => ⟨fun K hK => ?_, ?_⟩) (fun w₁ h₁ => ⟨b0, true, true, true, b4, b5, b6, b7, b8, b9, b10, rfl, ?_, ?_, rfl, h₁⟩)
    · simp only [opsB, loopB, Try.f29, TD]
      go_simp
      exact hK
    · simp only [opsB, loopB, Try.f29]
      exact dd_still (listed_nil (by simp [go_sem, TD, hi0, hi1, h0, h1, hw1]))
    · simp at hf ⊢; omega
    · exact ⟨(by first | exact hcl.c3 | exact fun _ => rfl | exact fun _ => ⟨rfl, rfl⟩ | exact fun h => (by have h2 := hcl.c3 h; simp at h2)) , (by first | exact hcl.c4 | exact fun _ => rfl | exact fun _ => ⟨rfl, rfl⟩ | exact fun h => (by have h2 := hcl.c4 h; simp at h2)) , (by first | exact hcl.c7 | exact fun _ => rfl | exact fun _ => ⟨rfl, rfl⟩ | exact fun h => (by have h2 := hcl.c7 h; simp at h2)) , (by first | exact hcl.c8 | exact fun _ => rfl | exact fun _ => ⟨rfl, rfl⟩ | exact fun h => (by have h2 := hcl.c8 h; simp at h2)) , (by first | exact hcl.c9 | exact fun _ => rfl | exact fun _ => ⟨rfl, rfl⟩ | exact fun h => (by have h2 := hcl.c9 h; simp at h2)) , (by first | exact hcl.c10 | exact fun _ => rfl | exact fun _ => ⟨rfl, rfl⟩ | exact fun h => (by have h2 := hcl.c10 h; simp at h2))⟩
  · have hbk : b4 = false := by simpa using hun
    subst hbk
    have hdep : b3 = true := by simpa [opsB, loopB, Try.f29, Region.binds] using (show ∀ e ∈ (opsB.getD 4 default).after, Region.binds .any e = true → _ from fun e he hb => hall e (by have : o = opsB.getD 4 default := (Option.some.inj ho).symm; rw [this]; exact he) hb)
    obtain ⟨rfl⟩ := hdep
    refine opC_yield (o := opsB.getD 4 default) (v := .int .u64 (ds.getD i.toNat 0)) rfl rfl (fun w₁ h₁ => ⟨fun K hK => ?_, ?_⟩) (fun w₁ h₁ => ⟨b0, b1, b2, true, true, b5, b6, b7, b8, b9, b10, rfl, ?_, ?_, rfl, h₁⟩)
    · have hcell : w₁.cell? (pt ad i.toNat) = _ := hc.at h₁ (j := i.toNat) (by omega); simp only [opsB, loopB, Try.f29, TD]
      go_simp
      exact hK
    · have hcell : w₁.cell? (pt ad i.toNat) = _ := hc.at h₁ (j := i.toNat) (by omega); simp only [opsB, loopB, Try.f29]
      exact dd_read (a := pt ad i.toNat) (by show (ad.add _).block < B; rw [Go.addBlock]; exact hc.low) (fun e he => by have hm := mem_listed he; simp [go_sem, TD, hcell] at hm; exact hm)
    · simp at hf ⊢; omega
    · exact ⟨(by first | exact hcl.c3 | exact fun _ => rfl | exact fun _ => ⟨rfl, rfl⟩ | exact fun h => (by have h2 := hcl.c3 h; simp at h2)) , (by first | exact hcl.c4 | exact fun _ => rfl | exact fun _ => ⟨rfl, rfl⟩ | exact fun h => (by have h2 := hcl.c4 h; simp at h2)) , (by first | exact hcl.c7 | exact fun _ => rfl | exact fun _ => ⟨rfl, rfl⟩ | exact fun h => (by have h2 := hcl.c7 h; simp at h2)) , (by first | exact hcl.c8 | exact fun _ => rfl | exact fun _ => ⟨rfl, rfl⟩ | exact fun h => (by have h2 := hcl.c8 h; simp at h2)) , (by first | exact hcl.c9 | exact fun _ => rfl | exact fun _ => ⟨rfl, rfl⟩ | exact fun h => (by have h2 := hcl.c9 h; simp at h2)) , (by first | exact hcl.c10 | exact fun _ => rfl | exact fun _ => ⟨rfl, rfl⟩ | exact fun h => (by have h2 := hcl.c10 h; simp at h2))⟩
  · have hbk : b5 = false := by simpa using hun
    subst hbk
    refine opC_yield (o := opsB.getD 5 default) (v := .slice (some ad) l cp) rfl rfl (fun w₁ h₁ => ⟨fun K hK => ?_, ?_⟩) (fun w₁ h₁ => ⟨b0, b1, b2, b3, b4, true, b6, b7, b8, b9, b10, rfl, ?_, ?_, rfl, h₁⟩)
    · simp only [opsB, loopB, Try.f29, TD]
      go_simp
      exact hK
    · simp only [opsB, loopB, Try.f29]
      exact dd_still (listed_nil (by simp [go_sem, TD]))
    · simp at hf ⊢; omega
    · exact ⟨(by first | exact hcl.c3 | exact fun _ => rfl | exact fun _ => ⟨rfl, rfl⟩ | exact fun h => (by have h2 := hcl.c3 h; simp at h2)) , (by first | exact hcl.c4 | exact fun _ => rfl | exact fun _ => ⟨rfl, rfl⟩ | exact fun h => (by have h2 := hcl.c4 h; simp at h2)) , (by first | exact hcl.c7 | exact fun _ => rfl | exact fun _ => ⟨rfl, rfl⟩ | exact fun h => (by have h2 := hcl.c7 h; simp at h2)) , (by first | exact hcl.c8 | exact fun _ => rfl | exact fun _ => ⟨rfl, rfl⟩ | exact fun h => (by have h2 := hcl.c8 h; simp at h2)) , (by first | exact hcl.c9 | exact fun _ => rfl | exact fun _ => ⟨rfl, rfl⟩ | exact fun h => (by have h2 := hcl.c9 h; simp at h2)) , (by first | exact hcl.c10 | exact fun _ => rfl | exact fun _ => ⟨rfl, rfl⟩ | exact fun h => (by have h2 := hcl.c10 h; simp at h2))⟩
  · have hbk : b6 = false := by simpa using hun
    subst hbk
    refine opC_yield (o := opsB.getD 6 default) (v := .int .i64 i) rfl rfl (fun w₁ h₁ => ⟨fun K hK => ?_, ?_⟩) (fun w₁ h₁ => ⟨b0, b1, b2, b3, b4, b5, true, b7, b8, b9, b10, rfl, ?_, ?_, rfl, h₁⟩)
    · simp only [opsB, loopB, Try.f29, TD]
      go_simp
      exact hK
    · simp only [opsB, loopB, Try.f29]
      exact dd_still (listed_nil (by simp [go_sem, TD]))
    · simp at hf ⊢; omega
    · exact ⟨(by first | exact hcl.c3 | exact fun _ => rfl | exact fun _ => ⟨rfl, rfl⟩ | exact fun h => (by have h2 := hcl.c3 h; simp at h2)) , (by first | exact hcl.c4 | exact fun _ => rfl | exact fun _ => ⟨rfl, rfl⟩ | exact fun h => (by have h2 := hcl.c4 h; simp at h2)) , (by first | exact hcl.c7 | exact fun _ => rfl | exact fun _ => ⟨rfl, rfl⟩ | exact fun h => (by have h2 := hcl.c7 h; simp at h2)) , (by first | exact hcl.c8 | exact fun _ => rfl | exact fun _ => ⟨rfl, rfl⟩ | exact fun h => (by have h2 := hcl.c8 h; simp at h2)) , (by first | exact hcl.c9 | exact fun _ => rfl | exact fun _ => ⟨rfl, rfl⟩ | exact fun h => (by have h2 := hcl.c9 h; simp at h2)) , (by first | exact hcl.c10 | exact fun _ => rfl | exact fun _ => ⟨rfl, rfl⟩ | exact fun h => (by have h2 := hcl.c10 h; simp at h2))⟩
  · have hbk : b7 = false := by simpa using hun
    subst hbk
    have hdep : b6 = true := by simpa [opsB, loopB, Try.f29, Region.binds] using (show ∀ e ∈ (opsB.getD 7 default).after, Region.binds .any e = true → _ from fun e he hb => hall e (by have : o = opsB.getD 7 default := (Option.some.inj ho).symm; rw [this]; exact he) hb)
    obtain ⟨rfl⟩ := hdep
    refine opC_yield (o := opsB.getD 7 default) (v := .int .i64 (i + 1)) rfl rfl (fun w₁ h₁ => ⟨fun K hK => ?_, ?_⟩) (fun w₁ h₁ => ⟨b0, b1, b2, b3, b4, b5, true, true, b8, b9, b10, rfl, ?_, ?_, rfl, h₁⟩)
    · simp only [opsB, loopB, Try.f29, TD]
      go_simp
      exact hK
    · simp only [opsB, loopB, Try.f29]
      exact dd_still (listed_nil (by simp [go_sem, TD]))
    · simp at hf ⊢; omega
    · exact ⟨(by first | exact hcl.c3 | exact fun _ => rfl | exact fun _ => ⟨rfl, rfl⟩ | exact fun h => (by have h2 := hcl.c3 h; simp at h2)) , (by first | exact hcl.c4 | exact fun _ => rfl | exact fun _ => ⟨rfl, rfl⟩ | exact fun h => (by have h2 := hcl.c4 h; simp at h2)) , (by first | exact hcl.c7 | exact fun _ => rfl | exact fun _ => ⟨rfl, rfl⟩ | exact fun h => (by have h2 := hcl.c7 h; simp at h2)) , (by first | exact hcl.c8 | exact fun _ => rfl | exact fun _ => ⟨rfl, rfl⟩ | exact fun h => (by have h2 := hcl.c8 h; simp at h2)) , (by first | exact hcl.c9 | exact fun _ => rfl | exact fun _ => ⟨rfl, rfl⟩ | exact fun h => (by have h2 := hcl.c9 h; simp at h2)) , (by first | exact hcl.c10 | exact fun _ => rfl | exact fun _ => ⟨rfl, rfl⟩ | exact fun h => (by have h2 := hcl.c10 h; simp at h2))⟩
  · have hbk : b8 = false := by simpa using hun
    subst hbk
    have hdep : b5 = true ∧ b7 = true := by simpa [opsB, loopB, Try.f29, Region.binds] using (show ∀ e ∈ (opsB.getD 8 default).after, Region.binds .any e = true → _ from fun e he hb => hall e (by have : o = opsB.getD 8 default := (Option.some.inj ho).symm; rw [this]; exact he) hb)
    obtain ⟨rfl, rfl⟩ := hdep
    refine opC_yield (o := opsB.getD 8 default) (v := .pointer (some (pt ad (i.toNat + 1)))) rfl rfl (fun w₁ h₁ => ⟨fun K hK => ?_, ?_⟩) (fun w₁ h₁ => ⟨b0, b1, b2, b3, b4, true, b6, true, true, b9, b10, rfl, ?_, ?_, rfl, h₁⟩)
    · simp only [opsB, loopB, Try.f29, TD]
      go_simp
      exact hK
    · simp only [opsB, loopB, Try.f29]
      exact dd_still (listed_nil (by simp [go_sem, TD, hi0, hi1, h0, h1, hw1]))
    · simp at hf ⊢; omega
    · exact ⟨(by first | exact hcl.c3 | exact fun _ => rfl | exact fun _ => ⟨rfl, rfl⟩ | exact fun h => (by have h2 := hcl.c3 h; simp at h2)) , (by first | exact hcl.c4 | exact fun _ => rfl | exact fun _ => ⟨rfl, rfl⟩ | exact fun h => (by have h2 := hcl.c4 h; simp at h2)) , (by first | exact hcl.c7 | exact fun _ => rfl | exact fun _ => ⟨rfl, rfl⟩ | exact fun h => (by have h2 := hcl.c7 h; simp at h2)) , (by first | exact hcl.c8 | exact fun _ => rfl | exact fun _ => ⟨rfl, rfl⟩ | exact fun h => (by have h2 := hcl.c8 h; simp at h2)) , (by first | exact hcl.c9 | exact fun _ => rfl | exact fun _ => ⟨rfl, rfl⟩ | exact fun h => (by have h2 := hcl.c9 h; simp at h2)) , (by first | exact hcl.c10 | exact fun _ => rfl | exact fun _ => ⟨rfl, rfl⟩ | exact fun h => (by have h2 := hcl.c10 h; simp at h2))⟩
  · have hbk : b9 = false := by simpa using hun
    subst hbk
    have hdep : b8 = true := by simpa [opsB, loopB, Try.f29, Region.binds] using (show ∀ e ∈ (opsB.getD 9 default).after, Region.binds .any e = true → _ from fun e he hb => hall e (by have : o = opsB.getD 9 default := (Option.some.inj ho).symm; rw [this]; exact he) hb)
    obtain ⟨rfl⟩ := hdep
    refine opC_yield (o := opsB.getD 9 default) (v := .int .u64 (ds.getD (i.toNat + 1) 0)) rfl rfl (fun w₁ h₁ => ⟨fun K hK => ?_, ?_⟩) (fun w₁ h₁ => ⟨b0, b1, b2, b3, b4, b5, b6, b7, true, true, b10, rfl, ?_, ?_, rfl, h₁⟩)
    · have hcell : w₁.cell? (pt ad (i.toNat + 1)) = _ := hc.at h₁ (j := i.toNat + 1) (by omega); simp only [opsB, loopB, Try.f29, TD]
      go_simp
      exact hK
    · have hcell : w₁.cell? (pt ad (i.toNat + 1)) = _ := hc.at h₁ (j := i.toNat + 1) (by omega); simp only [opsB, loopB, Try.f29]
      exact dd_read (a := pt ad (i.toNat + 1)) (by show (ad.add _).block < B; rw [Go.addBlock]; exact hc.low) (fun e he => by have hm := mem_listed he; simp [go_sem, TD, hcell] at hm; exact hm)
    · simp at hf ⊢; omega
    · exact ⟨(by first | exact hcl.c3 | exact fun _ => rfl | exact fun _ => ⟨rfl, rfl⟩ | exact fun h => (by have h2 := hcl.c3 h; simp at h2)) , (by first | exact hcl.c4 | exact fun _ => rfl | exact fun _ => ⟨rfl, rfl⟩ | exact fun h => (by have h2 := hcl.c4 h; simp at h2)) , (by first | exact hcl.c7 | exact fun _ => rfl | exact fun _ => ⟨rfl, rfl⟩ | exact fun h => (by have h2 := hcl.c7 h; simp at h2)) , (by first | exact hcl.c8 | exact fun _ => rfl | exact fun _ => ⟨rfl, rfl⟩ | exact fun h => (by have h2 := hcl.c8 h; simp at h2)) , (by first | exact hcl.c9 | exact fun _ => rfl | exact fun _ => ⟨rfl, rfl⟩ | exact fun h => (by have h2 := hcl.c9 h; simp at h2)) , (by first | exact hcl.c10 | exact fun _ => rfl | exact fun _ => ⟨rfl, rfl⟩ | exact fun h => (by have h2 := hcl.c10 h; simp at h2))⟩
  · have hbk : b10 = false := by simpa using hun
    subst hbk
    have hdep : b4 = true ∧ b9 = true := by simpa [opsB, loopB, Try.f29, Region.binds] using (show ∀ e ∈ (opsB.getD 10 default).after, Region.binds .any e = true → _ from fun e he hb => hall e (by have : o = opsB.getD 10 default := (Option.some.inj ho).symm; rw [this]; exact he) hb)
    obtain ⟨rfl, rfl⟩ := hdep
    refine opC_yield (o := opsB.getD 10 default) (v := .agg #[.int .u64 (ds.getD i.toNat 0), .int .u64 (ds.getD (i.toNat + 1) 0)]) rfl rfl (fun w₁ h₁ => ⟨fun K hK => ?_, ?_⟩) (fun w₁ h₁ => ⟨b0, b1, b2, b3, true, b5, b6, b7, b8, true, true, rfl, ?_, ?_, rfl, h₁⟩)
    · simp only [opsB, loopB, Try.f29, TD]
      go_simp
      exact hK
    · simp only [opsB, loopB, Try.f29]
      exact dd_still (listed_nil (by simp [go_sem, TD]))
    · simp at hf ⊢; omega
    · exact ⟨(by first | exact hcl.c3 | exact fun _ => rfl | exact fun _ => ⟨rfl, rfl⟩ | exact fun h => (by have h2 := hcl.c3 h; simp at h2)) , (by first | exact hcl.c4 | exact fun _ => rfl | exact fun _ => ⟨rfl, rfl⟩ | exact fun h => (by have h2 := hcl.c4 h; simp at h2)) , (by first | exact hcl.c7 | exact fun _ => rfl | exact fun _ => ⟨rfl, rfl⟩ | exact fun h => (by have h2 := hcl.c7 h; simp at h2)) , (by first | exact hcl.c8 | exact fun _ => rfl | exact fun _ => ⟨rfl, rfl⟩ | exact fun h => (by have h2 := hcl.c8 h; simp at h2)) , (by first | exact hcl.c9 | exact fun _ => rfl | exact fun _ => ⟨rfl, rfl⟩ | exact fun h => (by have h2 := hcl.c9 h; simp at h2)) , (by first | exact hcl.c10 | exact fun _ => rfl | exact fun _ => ⟨rfl, rfl⟩ | exact fun h => (by have h2 := hcl.c10 h; simp at h2))⟩
end Go.Proofs.Ytaeaacdjiijooaa.Co

namespace Go.Proofs.Ytaeaacdjiijooaa.Co
open Go.Conc Go.RowKit Go.Proofs.Ytaeaacdjiijooaa.Lift Go.Proofs.YtaeaacdjiijooaaW.PrintWords Go.Proofs.YtaeaacdjiijooaaW.PrintLast Go.Proofs.YtaeaacdjiijooaaW.PrintMore
set_option linter.unusedVariables false
set_option linter.unusedSimpArgs false
/-- The child's slots. -/
def TB (A : Option Addr) (l cp c : Nat) (i : Int) (J : Nat → Value) : Array Value :=
  #[.slice A l cp, .chan (some c), J 2, J 3, .int .i64 i, J 5, J 6, J 7, J 8, J 9, J 10, J 11, J 12, J 13, J 14, J 15, J 16, J 17, J 18, J 19, J 20, J 21, J 22, J 23]
/-- The child's bottom frame, once its one call has been taken off it. -/
noncomputable def bot : Frame := { (default : Frame) with fn := Try.prog.funcs.size, defers := [], mode := .panicking [goexitEntry] }
/-- The deferred close. -/
def dC (c : Nat) : List Deferred := [{ target := .builtin .close #[73] 0 #[false], args := #[.chan (some c)] }]
theorem quits29 (T : Array Value) (k : List Item) : QuitsIn Try.prog 2 (G { b29.at ⟨T, []⟩ k with mode := .returning } [bot]) := by
  refine .inr ⟨rfl, G bot [], fun w => ?_, ?_⟩
  · simp [G, stepG, unwind, doReturn, results, Frame.at, b29, bot, Try.func29, Try.f29, seen, GStep.after, goexitEntry]
  refine .inr ⟨rfl, { G bot [] with status := .finished }, fun w => ?_, rfl⟩
  simp [G, stepG, unwind, bot, goexitEntry, Frame.catches]
  rfl
theorem loud29 : (Try.prog.funcs[29]?).any (·.norace) = false := by kernel_rfl
theorem close29 (c B : Nat) (w0 : World) (T : Array Value) (k : List Item) (ty : TypeId) (cs : Array Bool) : AtClose Try.prog c (SB c B w0) (Own (Stl B c)) (G { b29.at ⟨T, [{ target := .builtin .close #[73] ty cs, args := #[.chan (some c)] }]⟩ k with mode := .returning } [bot]) := by
  refine ⟨rfl, by simp [mayWake, G, Frame.at], G { b29.at ⟨T, []⟩ k with mode := .returning } [bot], #[⟨.obj c, false, true⟩], 2, fun w s r tm _ hc => ?_, ?_, quits29 T k⟩
  · have hr := run_close_open (P := Try.prog) #[73] ty hc
    have he := events_close_open (P := Try.prog) (es := #[]) #[73] ty hc
    have e1 : (invoke (.builtin .close #[73] ty cs) #[.chan (some c)]).runT Try.prog w #[] = (.ok (.value (.tuple #[])) (w.shut c s r tm), #[⟨.obj c, false, true⟩, ⟨.obj c, true, true⟩]) := by
      refine Prod.ext ?_ ?_
      · rw [Sem.runT_fst]
        simp [invoke, builtin, hr, World.shut]
      · show Sem.events Try.prog (invoke (.builtin .close #[73] ty cs) #[.chan (some c)]) w #[] = _
        simp [invoke, builtin, hr, he]
    have e2 : seen Try.prog 29 #[⟨.obj c, false, true⟩, ⟨.obj c, true, true⟩] = #[⟨.obj c, false, true⟩, ⟨.obj c, true, true⟩] := seen_eq loud29 (by simp)
    simp only [G, stepG, unwind, Frame.at, callDeferred, e1, b29]
    simp [GStep.after, e2]
  · intro e he
    simp at he
    subst he
    exact ⟨fun m hm => (by cases hm), rfl, fun h => h (.inr rfl)⟩
/-- What is to be sent, from pair k on. -/
def valsP (ds : List Int) : Nat → Nat → List Value
  | _, 0 => []
  | k, m + 1 => encP (ds.getD (2 * k) 0, ds.getD (2 * k + 1) 0) :: valsP ds (k + 1) m
theorem ready_all : ∀ b0 b1 b2 b3 b4 b5 b6 b7 b8 b9 b10 : Bool, CL b0 b1 b2 b3 b4 b5 b6 b7 b8 b9 b10 → b0 = true → b10 = true → b1 = true ∧ b2 = true ∧ b3 = true ∧ b4 = true ∧ b5 = true ∧ b6 = true ∧ b7 = true ∧ b8 = true ∧ b9 = true := by
  intro b0 b1 b2 b3 b4 b5 b6 b7 b8 b9 b10 h h0 h10
  obtain ⟨h4, h9⟩ := h.c10 h10
  have h3 := h.c4 h4
  obtain ⟨h1, h2⟩ := h.c3 h3
  have h8 := h.c9 h9
  obtain ⟨h5, h7⟩ := h.c8 h8
  exact ⟨h1, h2, h3, h4, h5, h.c7 h7, h7, h8, h9⟩
set_option maxRecDepth 100000 in
theorem ready_some : ∀ b0 b1 b2 b3 b4 b5 b6 b7 b8 b9 b10 : Bool, Region.ready .any opsB #[b0, b1, b2, b3, b4, b5, b6, b7, b8, b9, b10, false] ≠ [] := by
  have key : ∀ (j : Nat) (lst : Array Bool), j ∈ Region.ready .any opsB lst → Region.ready .any opsB lst ≠ [] := fun j lst h e => by rw [e] at h; cases h
  intro b0 b1 b2 b3 b4 b5 b6 b7 b8 b9 b10
  have mk : ∀ j o, opsB[j]? = some o → (#[b0, b1, b2, b3, b4, b5, b6, b7, b8, b9, b10, false] : Array Bool).getD j true = false → (∀ e ∈ o.after, (#[b0, b1, b2, b3, b4, b5, b6, b7, b8, b9, b10, false] : Array Bool).getD e.on false = true) →
      Region.ready .any opsB #[b0, b1, b2, b3, b4, b5, b6, b7, b8, b9, b10, false] ≠ [] := fun j o ho hu hd => key j _ (mem_ready.2 ⟨hu, o, ho, fun e he _ => hd e he⟩)
  cases b0
  · exact mk 0 _ rfl rfl (by simp [opsB, loopB, Try.f29])
  cases b1
  · exact mk 1 _ rfl rfl (by simp [opsB, loopB, Try.f29])
  cases b2
  · exact mk 2 _ rfl rfl (by simp [opsB, loopB, Try.f29])
  cases b3
  · exact mk 3 _ rfl rfl (by simp [opsB, loopB, Try.f29])
  cases b4
  · exact mk 4 _ rfl rfl (by simp [opsB, loopB, Try.f29])
  cases b5
  · exact mk 5 _ rfl rfl (by simp [opsB, loopB, Try.f29])
  cases b6
  · exact mk 6 _ rfl rfl (by simp [opsB, loopB, Try.f29])
  cases b7
  · exact mk 7 _ rfl rfl (by simp [opsB, loopB, Try.f29])
  cases b8
  · exact mk 8 _ rfl rfl (by simp [opsB, loopB, Try.f29])
  cases b9
  · exact mk 9 _ rfl rfl (by simp [opsB, loopB, Try.f29])
  cases b10
  · exact mk 10 _ rfl rfl (by simp [opsB, loopB, Try.f29])
  · exact mk 11 _ rfl rfl (by simp [opsB, loopB, Try.f29])
/-- FROM THE REGION's HEAD TO ITS SEND. -/
theorem region_D (c B : Nat) (w0 : World) (ad : Addr) (l cp : Nat) (i : Int) (ds : List Int) (J : Nat → Value) (dd : List Deferred) (hc : Src c B w0 ad l ds) (h0 : 0 ≤ i) (h1 : i + 1 < l) (hl : l ≤ 4096) (k : List Item) (cs : List Frame) {Stop : Goroutine → World → Prop} {m : Nat}
    (hD : ∀ (J' : Nat → Value) w, SB c B w0 w → Goes Try.prog false (RD c B w0) (DD B c) Stop m (G (b29.at ⟨TD ad l cp c i ds J' true true true true true true true true true true true, dd⟩ (.inRegion opsB [11] :: k)) cs) w) (w : World) (t : Nat) (hS : SB c B w0 w) :
    Goes Try.prog false (RD c B w0) (DD B c) Stop (m + 12) (G (b29.at ⟨TB (some ad) l cp c i J, dd⟩ (.inRegion opsB (Region.schedule (Try.prog.follows .mixedOrders) opsB t) :: k)) cs) w := by
  have hm : Try.prog.follows .mixedOrders = true := by kernel_rfl
  simp only [Region.schedule, hm, Bool.true_or, if_true, Region.linearise]
  refine draw_walk (termsD c B w0) (I := ID c B w0 ad l cp i ds J dd) (z := 11) (Done := fun a w => a = ⟨TD ad l cp c i ds J true true true true true true true true true true true, dd⟩ ∧ SB c B w0 w)
    (fun f lst a w w₁ h hr => ?_) (fun lst a w h => ?_) (fun f lst a w h => ?_) (fun f lst a w h hz => ?_) (step_D c B w0 ad l cp i ds J dd hc h0 h1 hl) rfl (by decide) (fun a w h => ?_) 12 t (Array.replicate 12 false) _ w ?_
  · obtain ⟨b0, b1, b2, b3, b4, b5, b6, b7, b8, b9, b10, e1, e2, e3, e4, _⟩ := h
    exact ⟨b0, b1, b2, b3, b4, b5, b6, b7, b8, b9, b10, e1, e2, e3, e4, hr⟩
  · obtain ⟨b0, b1, b2, b3, b4, b5, b6, b7, b8, b9, b10, e1, e2, e3, e4, _⟩ := h
    have hle : ∀ b : Bool, b.toNat ≤ 1 := fun b => by cases b <;> simp
    have := hle b0; have := hle b1; have := hle b2; have := hle b3; have := hle b4; have := hle b5; have := hle b6; have := hle b7; have := hle b8; have := hle b9; have := hle b10
    omega
  · obtain ⟨b0, b1, b2, b3, b4, b5, b6, b7, b8, b9, b10, rfl, e2, e3, e4, _⟩ := h
    exact ready_some _ _ _ _ _ _ _ _ _ _ _
  · obtain ⟨b0, b1, b2, b3, b4, b5, b6, b7, b8, b9, b10, rfl, e2, e3, rfl, hS'⟩ := h
    obtain ⟨hun, o, ho, hall⟩ := mem_ready.1 hz
    have hd : b0 = true ∧ b10 = true := by simpa [opsB, loopB, Try.f29, Region.binds] using (show ∀ e ∈ (opsB.getD 11 default).after, Region.binds .any e = true → _ from fun e he hb => hall e (by have : o = opsB.getD 11 default := (Option.some.inj ho).symm; rw [this]; exact he) hb)
    obtain ⟨rfl, rfl⟩ := hd
    obtain ⟨rfl, rfl, rfl, rfl, rfl, rfl, rfl, rfl, rfl⟩ := ready_all _ _ _ _ _ _ _ _ _ _ _ e3 rfl rfl
    exact ⟨⟨rfl, hS'⟩, by simp at e2; omega⟩
  · obtain ⟨rfl, hS'⟩ := h
    exact hD J w hS'
  · exact ⟨false, false, false, false, false, false, false, false, false, false, false, rfl, rfl, ⟨by simp, by simp, by simp, by simp, by simp, by simp⟩, rfl, hS⟩
theorem hs_len (l : Nat) (i : Int) (hl : l ≤ 4096) (h0 : 0 ≤ i) (h1 : i ≤ 4096) : IntKind.i64.wrap (i + 1) = i + 1 := by rw [IntKind.wrap_i64]; omega
set_option maxHeartbeats 4000000 in
set_option maxRecDepth 100000 in
/-- THE SENDER's SCRIPT, FROM THE LOOP's HEAD: k pairs sent, m to send. -/
theorem sends_from (c B : Nat) (w0 : World) (A : Option Addr) (l cp : Nat) (ds : List Int) (hA : ∀ ad, A = some ad → Src c B w0 ad l ds) (hnil : 1 < l → ∃ ad, A = some ad) (hl : l ≤ 4096) : ∀ (m k : Nat), 2 * (k + m) ≤ l → l < 2 * (k + m) + 2 →
    ∃ n', ∀ (J : Nat → Value) (w : World), Goes Try.prog false (RD c B w0) (DD B c) (StopBR Try.prog c (SB c B w0) (Own (Stl B c)) (valsP ds k m)) n' (G (b29.at ⟨TB A l cp c (2 * k : Nat) J, dC c⟩ [.code loopB, .inLoop loopB, .inBlock 0]) [bot]) w := by
  intro m
  induction m with
  | zero =>
    intro k hk1 hk2
    refine ⟨0 + 40, fun J w => ?_⟩
    have hwr : IntKind.i64.wrap (((2 * k : Nat) : Int) + 1) = ((2 * k : Nat) : Int) + 1 := hs_len l _ hl (by omega) (by omega)
    have hcmp : decide (((2 * k : Nat) : Int) + 1 < (l : Int)) = false := decide_eq_false (by omega)
    generalize hI : ((2 * k : Nat) : Int) = I at hwr hcmp ⊢
    clear hI
    simp only [loopB, TB, Try.f29]
    repeat (first | (own_ctl; refine ⟨dd_still rfl, ?_⟩) | (refine Goes.step rfl (fun w₁ h₁ => ?_); refine goes_oper_k rfl rfl (by decide) (fun K hK => ?_); go_simp; refine hK _ _ ⟨dd_still (listed_nil (by simp [go_sem])), ?_⟩; clear hK K))
    refine Goes.step rfl (fun _ _ => ?_)
    rw [stepG_cond (t := false) rfl]
    simp only [goes_go, if_false, Bool.false_eq_true, ↓reduceIte]
    refine ⟨dd_still rfl, ?_⟩
    refine Goes.step rfl (fun _ _ => ?_)
    apply goes_exit
    · rfl
    refine ⟨dd_still rfl, ?_⟩
    refine Goes.step rfl (fun _ _ => ?_)
    rw [stepG_end]
    refine ⟨dd_still rfl, ?_⟩
    exact Goes.stop fun _ _ => close29 c B w0 _ [] 0 #[false]
  | succ m ih =>
    intro k hk1 hk2
    obtain ⟨ad, rfl⟩ := hnil (by omega)
    obtain ⟨n₁, ih⟩ := ih (k + 1) (by omega) (by omega)
    refine ⟨0 + 12 + 40, fun J w => ?_⟩
    have hc := hA ad rfl
    have hi0 : 0 ≤ ((2 * k : Nat) : Int) := by omega
    have hi1 : ((2 * k : Nat) : Int) + 1 < l := by omega
    have hwr : IntKind.i64.wrap (((2 * k : Nat) : Int) + 1) = ((2 * k : Nat) : Int) + 1 := hs_len l _ hl (by omega) (by omega)
    have hwr2 : IntKind.i64.wrap (((2 * k : Nat) : Int) + 2) = ((2 * (k + 1) : Nat) : Int) := by rw [IntKind.wrap_i64]; omega
    have hcmp : decide (((2 * k : Nat) : Int) + 1 < (l : Int)) = true := decide_eq_true hi1
    have ht0 : (((2 * k : Nat) : Int)).toNat = 2 * k := by omega
    have hval : encP (ds.getD (2 * k) 0, ds.getD (2 * k + 1) 0) = .agg #[.int .u64 (ds.getD ((2 * k : Nat) : Int).toNat 0), .int .u64 (ds.getD (((2 * k : Nat) : Int).toNat + 1) 0)] := by rw [ht0]; rfl
    show Goes _ _ _ _ (StopBR Try.prog c (SB c B w0) (Own (Stl B c)) (encP (ds.getD (2 * k) 0, ds.getD (2 * k + 1) 0) :: valsP ds (k + 1) m)) _ _ _
    rw [hval]
    generalize hI : ((2 * k : Nat) : Int) = I at hi0 hi1 hwr hwr2 hcmp ⊢
    generalize hK' : ((2 * (k + 1) : Nat) : Int) = I' at hwr2 ih
    clear hval ht0 hI hK'
    have hreg := fun (J : Nat → Value) (Stop : Goroutine → World → Prop) (n : Nat) => region_D c B w0 ad l cp I ds J (dC c) hc hi0 hi1 hl (.inBlock 1 :: .code incB :: .inLoop loopB :: .inBlock 0 :: []) [bot] (Stop := Stop) (m := n)
    simp only [opsB, incB, loopB, TB, Try.f29] at hreg ⊢
    repeat (first | (own_ctl; refine ⟨dd_still rfl, ?_⟩) | (refine Goes.step rfl (fun w₁ h₁ => ?_); refine goes_oper_k rfl rfl (by decide) (fun K hK => ?_); go_simp; refine hK _ _ ⟨dd_still (listed_nil (by simp [go_sem])), ?_⟩; clear hK K))
    refine Goes.step rfl (fun _ _ => ?_)
    rw [stepG_cond (t := true) rfl]
    simp only [goes_go, if_true, ↓reduceIte]
    refine ⟨dd_still rfl, ?_⟩
    repeat (first | (own_ctl; refine ⟨dd_still rfl, ?_⟩) | (refine Goes.step rfl (fun w₁ h₁ => ?_); refine goes_oper_k rfl rfl (by decide) (fun K hK => ?_); go_simp; refine hK _ _ ⟨dd_still (listed_nil (by simp [go_sem])), ?_⟩; clear hK K))
    refine Goes.step rfl (fun w₂ h₂ => ?_)
    rw [stepG_region_draw]
    refine ⟨⟨⟨_, rfl⟩, by simp⟩, ?_⟩
    refine Goes.mono (hreg (fun i => if i = 6 then .int .i64 I else if i = 7 then .int .i64 (I + 1) else if i = 8 then .slice (some ad) l cp else if i = 9 then .int .i64 l else if i = 10 then .bool true else J i) _ 0 (fun J' w' hS' => Goes.stop fun w₁ _ => ?_) _ _ h₂) (by omega)
    show AtSend _ _ _ _ _ (SendsR _ _ _ _ (valsP ds (k + 1) m)) _
    refine atSend_of rfl rfl (by decide) rfl rfl rfl ?_
    refine (sendsR_iff ..).2 ⟨n₁ + 8, ?_⟩
    simp only [TD, if_true]
    walk_nrm
    repeat (first | (own_ctl; refine ⟨dd_still rfl, ?_⟩) | (refine Goes.step rfl (fun w₁ h₁ => ?_); refine goes_oper_k rfl rfl (by decide) (fun K hK => ?_); go_simp; refine hK _ _ ⟨dd_still (listed_nil (by simp [go_sem])), ?_⟩; clear hK K))
    exact ih (fun i => if i = 11 then .int .i64 I else if i = 12 then .int .i64 I' else if i = 13 then .chan (some c) else if i = 14 then .slice (some ad) l cp else if i = 15 then .int .i64 I else if i = 16 then .pointer (some (pt ad I.toNat)) else if i = 17 then .int .u64 (ds[I.toNat]?.getD 0) else if i = 18 then .slice (some ad) l cp else if i = 19 then .int .i64 I else if i = 20 then .int .i64 (I + 1) else if i = 21 then .pointer (some (pt ad (I.toNat + 1))) else if i = 22 then .int .u64 (ds[I.toNat + 1]?.getD 0) else if i = 23 then .agg #[.int .u64 (ds[I.toNat]?.getD 0), .int .u64 (ds[I.toNat + 1]?.getD 0)] else J' i) _
end Go.Proofs.Ytaeaacdjiijooaa.Co

namespace Go.Proofs.Ytaeaacdjiijooaa.Co
open Go.Conc Go.RowKit Go.Proofs.Ytaeaacdjiijooaa.Lift Go.Proofs.YtaeaacdjiijooaaW.PrintWords Go.Proofs.YtaeaacdjiijooaaW.PrintLast Go.Proofs.YtaeaacdjiijooaaW.PrintMore
set_option linter.unusedVariables false
set_option linter.unusedSimpArgs false
/-- The call that the go statement holds. -/
def dP (A : Option Addr) (l cp c : Nat) : Deferred := { target := .fn (.func 29) #[], args := #[.slice A l cp, .chan (some c)] }
noncomputable def body29 : Code := Try.f29.body.getD .skip
theorem stepG_deferB {P : Program} {main : Bool} {b : Frame} {a : Act} {k : List Item} {cs : List Frame} {w : World} {ops : Array Oper} {i : Nat} {rest : List Nat} {o : Oper} {d : Deferred} (ho : ops[i]? = some o) (hw : Region.wanted o (yielded ops a.tmps) = true)
    (hk : b.kind ≠ .early) (hr : (execOp a.eval o).run P w = .ok (.defer d) w) (he : (execOp a.eval o).events P w #[] = #[]) :
    stepG P main (G (b.at a (.inRegion ops (i :: rest) :: k)) cs) w = .go (G (b.at (Act.put ⟨a.tmps, d :: a.defers⟩ o.dst undef) (.inRegion ops rest :: k)) cs) w #[] := by
  have hfin : (b.at ⟨a.tmps, d :: a.defers⟩ (.inRegion ops (i :: rest) :: k)).finish undef = b.at (Act.put ⟨a.tmps, d :: a.defers⟩ o.dst undef) (.inRegion ops rest :: k) := by rw [Frame.finish_at, ho]; rfl
  have hk' : (b.kind == CallKind.early) = false := by simpa using hk
  rw [stepG_oper ho hw, ← hfin]
  simp [stepG.apply, hr, he, G, Frame.at, hk', GStep.after, seen_none]
theorem born_step (A : Option Addr) (l cp c : Nat) (w : World) : stepG Try.prog false (born Try.prog (dP A l cp c)) w =
    .go (G (b29.at ⟨#[.slice A l cp, .chan (some c), undef, undef, undef, undef, undef, undef, undef, undef, undef, undef, undef, undef, undef, undef, undef, undef, undef, undef, undef, undef, undef, undef], []⟩ [.code body29]) [bot]) w #[] := by
  simp [born, dP, stepG, unwind, callDeferred, invoke, callFunc, Try.func29, Try.f29, seen, GStep.after, G, Frame.enter, Frame.at, b29, bot, body29]
set_option maxHeartbeats 4000000 in
set_option maxRecDepth 100000 in
theorem sends_all (c B : Nat) (w0 : World) (A : Option Addr) (l cp : Nat) (ds : List Int) (hA : ∀ ad, A = some ad → Src c B w0 ad l ds) (hnil : 1 < l → ∃ ad, A = some ad) (hl : l ≤ 4096) :
    SendsR Try.prog c (SB c B w0) (Own (Stl B c)) (valsP ds 0 (l / 2)) (born Try.prog (dP A l cp c)) := by
  obtain ⟨n₁, hloop⟩ := sends_from c B w0 A l cp ds hA hnil hl (l / 2) 0 (by omega) (by omega)
  refine (sendsR_iff ..).2 ⟨n₁ + 11 + 1, Goes.step rfl fun w₁ _ => ?_⟩
  rw [born_step]
  refine ⟨dd_still rfl, ?_⟩
  simp only [body29, Try.f29, Option.getD_some]
  repeat (first | (own_ctl; refine ⟨dd_still rfl, ?_⟩) | (refine Goes.step rfl (fun w₁ h₁ => ?_); refine goes_oper_k rfl rfl (by decide) (fun K hK => ?_); go_simp; refine hK _ _ ⟨dd_still (listed_nil (by simp [go_sem])), ?_⟩; clear hK K))
  refine Goes.step rfl (fun w₂ h₂ => ?_)
  rw [stepG_deferB (d := { target := .builtin .close #[73] 0 #[false], args := #[.chan (some c)] }) rfl rfl (by decide) (by simp [go_sem, execOp, resolve, Act.eval]) (by simp [go_sem, execOp, resolve, Act.eval])]
  refine ⟨dd_still rfl, ?_⟩
  simp only [Act.put]
  repeat (first | (own_ctl; refine ⟨dd_still rfl, ?_⟩) | (refine Goes.step rfl (fun w₁ h₁ => ?_); refine goes_oper_k rfl rfl (by decide) (fun K hK => ?_); go_simp; refine hK _ _ ⟨dd_still (listed_nil (by simp [go_sem])), ?_⟩; clear hK K))
  exact hloop (fun i => if i = 5 then .chan (some c) else undef) _
end Go.Proofs.Ytaeaacdjiijooaa.Co
