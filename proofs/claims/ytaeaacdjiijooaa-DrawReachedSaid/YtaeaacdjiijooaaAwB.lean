/- awake's course; DrawReached's course and answer. -/
import Derived.Test.YtaeaacdjiijooaaPlAll
import Derived.Test.YtaeaacdjiijooaaAwAll
import Derived.Test.YtaeaacdjiijooaaPrAll
namespace Go.Proofs.Ytaeaacdjiijooaa.Co
open Go Go.Conc Go.Proofs.Ytaeaacdjiijooaa.Lift
set_option linter.unusedVariables false
set_option linter.unusedSimpArgs false
def fs7 : FuncId → List Nat
  | 37 => [21]
  | 42 => [1, 6]
  | 45 => [1, 12]
  | 50 => [1, 11]
  | 51 => [4, 29, 36, 43, 51, 60, 79, 84, 102, 110, 133, 145]
  | 54 => [3, 22]
  | 55 => [3, 28, 58]
  | 56 => [3]
  | 57 => [3, 39, 43, 47, 53]
  | 58 => [3]
  | 59 => [3, 23, 72, 112]
  | 60 => [4, 35, 54]
  | 61 => [4, 36, 54, 109, 127]
  | 64 => [4, 24, 43]
  | 67 => [3, 16]
  | 68 => [5, 18, 27, 36]
  | 69 => [4, 12]
  | _ => []
def S7 : List FuncId := [10, 11, 12, 13, 15, 16, 21, 22, 23, 26, 27, 28, 30, 31, 37, 42, 43, 44, 45, 46, 47, 50, 51, 52, 53, 54, 55, 56, 57, 58, 59, 60, 61, 62, 63, 64, 65, 66, 67, 68, 69]
def C7 : Chk := { S := fun f => S7.contains f, fs := fs7, V := fun f => f == 43 || f == 46, L := fun f => [4, 7, 8, 9, 14, 25].contains f }
theorem c7_10 : ∃ fn body, Try.prog.funcs[10]? = some fn ∧ fn.name ≠ "runtime.NumGoroutine" ∧ fn.body = some body ∧ tameCode C7 10 body = true := ⟨Try.f10, _, Try.func10, by decide, rfl, by kernel_rfl⟩
theorem c7_11 : ∃ fn body, Try.prog.funcs[11]? = some fn ∧ fn.name ≠ "runtime.NumGoroutine" ∧ fn.body = some body ∧ tameCode C7 11 body = true := ⟨Try.f11, _, Try.func11, by decide, rfl, by kernel_rfl⟩
theorem c7_12 : ∃ fn body, Try.prog.funcs[12]? = some fn ∧ fn.name ≠ "runtime.NumGoroutine" ∧ fn.body = some body ∧ tameCode C7 12 body = true := ⟨Try.f12, _, Try.func12, by decide, rfl, by kernel_rfl⟩
theorem c7_13 : ∃ fn body, Try.prog.funcs[13]? = some fn ∧ fn.name ≠ "runtime.NumGoroutine" ∧ fn.body = some body ∧ tameCode C7 13 body = true := ⟨Try.f13, _, Try.func13, by decide, rfl, by kernel_rfl⟩
theorem c7_15 : ∃ fn body, Try.prog.funcs[15]? = some fn ∧ fn.name ≠ "runtime.NumGoroutine" ∧ fn.body = some body ∧ tameCode C7 15 body = true := ⟨Try.f15, _, Try.func15, by decide, rfl, by kernel_rfl⟩
theorem c7_16 : ∃ fn body, Try.prog.funcs[16]? = some fn ∧ fn.name ≠ "runtime.NumGoroutine" ∧ fn.body = some body ∧ tameCode C7 16 body = true := ⟨Try.f16, _, Try.func16, by decide, rfl, by kernel_rfl⟩
theorem c7_21 : ∃ fn body, Try.prog.funcs[21]? = some fn ∧ fn.name ≠ "runtime.NumGoroutine" ∧ fn.body = some body ∧ tameCode C7 21 body = true := ⟨Try.f21, _, Try.func21, by decide, rfl, by kernel_rfl⟩
theorem c7_22 : ∃ fn body, Try.prog.funcs[22]? = some fn ∧ fn.name ≠ "runtime.NumGoroutine" ∧ fn.body = some body ∧ tameCode C7 22 body = true := ⟨Try.f22, _, Try.func22, by decide, rfl, by kernel_rfl⟩
theorem c7_23 : ∃ fn body, Try.prog.funcs[23]? = some fn ∧ fn.name ≠ "runtime.NumGoroutine" ∧ fn.body = some body ∧ tameCode C7 23 body = true := ⟨Try.f23, _, Try.func23, by decide, rfl, by kernel_rfl⟩
theorem c7_26 : ∃ fn body, Try.prog.funcs[26]? = some fn ∧ fn.name ≠ "runtime.NumGoroutine" ∧ fn.body = some body ∧ tameCode C7 26 body = true := ⟨Try.f26, _, Try.func26, by decide, rfl, by kernel_rfl⟩
theorem c7_27 : ∃ fn body, Try.prog.funcs[27]? = some fn ∧ fn.name ≠ "runtime.NumGoroutine" ∧ fn.body = some body ∧ tameCode C7 27 body = true := ⟨Try.f27, _, Try.func27, by decide, rfl, by kernel_rfl⟩
theorem c7_28 : ∃ fn body, Try.prog.funcs[28]? = some fn ∧ fn.name ≠ "runtime.NumGoroutine" ∧ fn.body = some body ∧ tameCode C7 28 body = true := ⟨Try.f28, _, Try.func28, by decide, rfl, by kernel_rfl⟩
theorem c7_30 : ∃ fn body, Try.prog.funcs[30]? = some fn ∧ fn.name ≠ "runtime.NumGoroutine" ∧ fn.body = some body ∧ tameCode C7 30 body = true := ⟨Try.f30, _, Try.func30, by decide, rfl, by kernel_rfl⟩
theorem c7_31 : ∃ fn body, Try.prog.funcs[31]? = some fn ∧ fn.name ≠ "runtime.NumGoroutine" ∧ fn.body = some body ∧ tameCode C7 31 body = true := ⟨Try.f31, _, Try.func31, by decide, rfl, by kernel_rfl⟩
theorem c7_37 : ∃ fn body, Try.prog.funcs[37]? = some fn ∧ fn.name ≠ "runtime.NumGoroutine" ∧ fn.body = some body ∧ tameCode C7 37 body = true := ⟨Try.f37, _, Try.func37, by decide, rfl, by kernel_rfl⟩
theorem c7_42 : ∃ fn body, Try.prog.funcs[42]? = some fn ∧ fn.name ≠ "runtime.NumGoroutine" ∧ fn.body = some body ∧ tameCode C7 42 body = true := ⟨Try.f42, _, Try.func42, by decide, rfl, by kernel_rfl⟩
theorem c7_43 : ∃ fn body, Try.prog.funcs[43]? = some fn ∧ fn.name ≠ "runtime.NumGoroutine" ∧ fn.body = some body ∧ tameCode C7 43 body = true := ⟨Try.f43, _, Try.func43, by decide, rfl, by kernel_rfl⟩
theorem c7_44 : ∃ fn body, Try.prog.funcs[44]? = some fn ∧ fn.name ≠ "runtime.NumGoroutine" ∧ fn.body = some body ∧ tameCode C7 44 body = true := ⟨Try.f44, _, Try.func44, by decide, rfl, by kernel_rfl⟩
theorem c7_45 : ∃ fn body, Try.prog.funcs[45]? = some fn ∧ fn.name ≠ "runtime.NumGoroutine" ∧ fn.body = some body ∧ tameCode C7 45 body = true := ⟨Try.f45, _, Try.func45, by decide, rfl, by kernel_rfl⟩
theorem c7_46 : ∃ fn body, Try.prog.funcs[46]? = some fn ∧ fn.name ≠ "runtime.NumGoroutine" ∧ fn.body = some body ∧ tameCode C7 46 body = true := ⟨Try.f46, _, Try.func46, by decide, rfl, by kernel_rfl⟩
theorem c7_47 : ∃ fn body, Try.prog.funcs[47]? = some fn ∧ fn.name ≠ "runtime.NumGoroutine" ∧ fn.body = some body ∧ tameCode C7 47 body = true := ⟨Try.f47, _, Try.func47, by decide, rfl, by kernel_rfl⟩
theorem c7_50 : ∃ fn body, Try.prog.funcs[50]? = some fn ∧ fn.name ≠ "runtime.NumGoroutine" ∧ fn.body = some body ∧ tameCode C7 50 body = true := ⟨Try.f50, _, Try.func50, by decide, rfl, by kernel_rfl⟩
theorem c7_51 : ∃ fn body, Try.prog.funcs[51]? = some fn ∧ fn.name ≠ "runtime.NumGoroutine" ∧ fn.body = some body ∧ tameCode C7 51 body = true := ⟨Try.f51, _, Try.func51, by decide, rfl, by kernel_rfl⟩
theorem c7_52 : ∃ fn body, Try.prog.funcs[52]? = some fn ∧ fn.name ≠ "runtime.NumGoroutine" ∧ fn.body = some body ∧ tameCode C7 52 body = true := ⟨Try.f52, _, Try.func52, by decide, rfl, by kernel_rfl⟩
theorem c7_53 : ∃ fn body, Try.prog.funcs[53]? = some fn ∧ fn.name ≠ "runtime.NumGoroutine" ∧ fn.body = some body ∧ tameCode C7 53 body = true := ⟨Try.f53, _, Try.func53, by decide, rfl, by kernel_rfl⟩
theorem c7_54 : ∃ fn body, Try.prog.funcs[54]? = some fn ∧ fn.name ≠ "runtime.NumGoroutine" ∧ fn.body = some body ∧ tameCode C7 54 body = true := ⟨Try.f54, _, Try.func54, by decide, rfl, by kernel_rfl⟩
theorem c7_55 : ∃ fn body, Try.prog.funcs[55]? = some fn ∧ fn.name ≠ "runtime.NumGoroutine" ∧ fn.body = some body ∧ tameCode C7 55 body = true := ⟨Try.f55, _, Try.func55, by decide, rfl, by kernel_rfl⟩
theorem c7_56 : ∃ fn body, Try.prog.funcs[56]? = some fn ∧ fn.name ≠ "runtime.NumGoroutine" ∧ fn.body = some body ∧ tameCode C7 56 body = true := ⟨Try.f56, _, Try.func56, by decide, rfl, by kernel_rfl⟩
theorem c7_57 : ∃ fn body, Try.prog.funcs[57]? = some fn ∧ fn.name ≠ "runtime.NumGoroutine" ∧ fn.body = some body ∧ tameCode C7 57 body = true := ⟨Try.f57, _, Try.func57, by decide, rfl, by kernel_rfl⟩
theorem c7_58 : ∃ fn body, Try.prog.funcs[58]? = some fn ∧ fn.name ≠ "runtime.NumGoroutine" ∧ fn.body = some body ∧ tameCode C7 58 body = true := ⟨Try.f58, _, Try.func58, by decide, rfl, by kernel_rfl⟩
theorem c7_59 : ∃ fn body, Try.prog.funcs[59]? = some fn ∧ fn.name ≠ "runtime.NumGoroutine" ∧ fn.body = some body ∧ tameCode C7 59 body = true := ⟨Try.f59, _, Try.func59, by decide, rfl, by kernel_rfl⟩
theorem c7_60 : ∃ fn body, Try.prog.funcs[60]? = some fn ∧ fn.name ≠ "runtime.NumGoroutine" ∧ fn.body = some body ∧ tameCode C7 60 body = true := ⟨Try.f60, _, Try.func60, by decide, rfl, by kernel_rfl⟩
theorem c7_61 : ∃ fn body, Try.prog.funcs[61]? = some fn ∧ fn.name ≠ "runtime.NumGoroutine" ∧ fn.body = some body ∧ tameCode C7 61 body = true := ⟨Try.f61, _, Try.func61, by decide, rfl, by kernel_rfl⟩
theorem c7_62 : ∃ fn body, Try.prog.funcs[62]? = some fn ∧ fn.name ≠ "runtime.NumGoroutine" ∧ fn.body = some body ∧ tameCode C7 62 body = true := ⟨Try.f62, _, Try.func62, by decide, rfl, by kernel_rfl⟩
theorem c7_63 : ∃ fn body, Try.prog.funcs[63]? = some fn ∧ fn.name ≠ "runtime.NumGoroutine" ∧ fn.body = some body ∧ tameCode C7 63 body = true := ⟨Try.f63, _, Try.func63, by decide, rfl, by kernel_rfl⟩
theorem c7_64 : ∃ fn body, Try.prog.funcs[64]? = some fn ∧ fn.name ≠ "runtime.NumGoroutine" ∧ fn.body = some body ∧ tameCode C7 64 body = true := ⟨Try.f64, _, Try.func64, by decide, rfl, by kernel_rfl⟩
theorem c7_65 : ∃ fn body, Try.prog.funcs[65]? = some fn ∧ fn.name ≠ "runtime.NumGoroutine" ∧ fn.body = some body ∧ tameCode C7 65 body = true := ⟨Try.f65, _, Try.func65, by decide, rfl, by kernel_rfl⟩
theorem c7_66 : ∃ fn body, Try.prog.funcs[66]? = some fn ∧ fn.name ≠ "runtime.NumGoroutine" ∧ fn.body = some body ∧ tameCode C7 66 body = true := ⟨Try.f66, _, Try.func66, by decide, rfl, by kernel_rfl⟩
theorem c7_67 : ∃ fn body, Try.prog.funcs[67]? = some fn ∧ fn.name ≠ "runtime.NumGoroutine" ∧ fn.body = some body ∧ tameCode C7 67 body = true := ⟨Try.f67, _, Try.func67, by decide, rfl, by kernel_rfl⟩
theorem c7_68 : ∃ fn body, Try.prog.funcs[68]? = some fn ∧ fn.name ≠ "runtime.NumGoroutine" ∧ fn.body = some body ∧ tameCode C7 68 body = true := ⟨Try.f68, _, Try.func68, by decide, rfl, by kernel_rfl⟩
theorem c7_69 : ∃ fn body, Try.prog.funcs[69]? = some fn ∧ fn.name ≠ "runtime.NumGoroutine" ∧ fn.body = some body ∧ tameCode C7 69 body = true := ⟨Try.f69, _, Try.func69, by decide, rfl, by kernel_rfl⟩
theorem chk7 : ChkOk Try.prog C7 := by
  refine ⟨fun g hg => ?_, fun g hg => ?_, noSteps, fun g hg => ?_⟩
  · have h : g ∈ S7 := by simpa [C7] using hg
    simp only [S7, List.mem_cons, List.not_mem_nil, or_false] at h
    rcases h with rfl | rfl | rfl | rfl | rfl | rfl | rfl | rfl | rfl | rfl | rfl | rfl | rfl | rfl | rfl | rfl | rfl | rfl | rfl | rfl | rfl | rfl | rfl | rfl | rfl | rfl | rfl | rfl | rfl | rfl | rfl | rfl | rfl | rfl | rfl | rfl | rfl | rfl | rfl | rfl | rfl
    · exact c7_10
    · exact c7_11
    · exact c7_12
    · exact c7_13
    · exact c7_15
    · exact c7_16
    · exact c7_21
    · exact c7_22
    · exact c7_23
    · exact c7_26
    · exact c7_27
    · exact c7_28
    · exact c7_30
    · exact c7_31
    · exact c7_37
    · exact c7_42
    · exact c7_43
    · exact c7_44
    · exact c7_45
    · exact c7_46
    · exact c7_47
    · exact c7_50
    · exact c7_51
    · exact c7_52
    · exact c7_53
    · exact c7_54
    · exact c7_55
    · exact c7_56
    · exact c7_57
    · exact c7_58
    · exact c7_59
    · exact c7_60
    · exact c7_61
    · exact c7_62
    · exact c7_63
    · exact c7_64
    · exact c7_65
    · exact c7_66
    · exact c7_67
    · exact c7_68
    · exact c7_69
  · have h : g = 43 ∨ g = 46 := by simpa [C7] using hg
    rcases h with rfl | rfl <;> exact ⟨by decide, rfl⟩
  · have h : g = 4 ∨ g = 7 ∨ g = 8 ∨ g = 9 ∨ g = 14 ∨ g = 25 := by simpa [C7] using hg
    rcases h with rfl | rfl | rfl | rfl | rfl | rfl
    · exact ⟨Try.f4, _, Try.func4, rfl⟩
    · exact ⟨Try.f7, _, Try.func7, rfl⟩
    · exact ⟨Try.f8, _, Try.func8, rfl⟩
    · exact ⟨Try.f9, _, Try.func9, rfl⟩
    · exact ⟨Try.f14, _, Try.func14, rfl⟩
    · exact ⟨Try.f25, _, Try.func25, rfl⟩
end Go.Proofs.Ytaeaacdjiijooaa.Co

namespace Go.Proofs.Ytaeaacdjiijooaa.Co
open Go.Conc Go.RowKit Go.Proofs.Ytaeaacdjiijooaa.Lift Go.Proofs.YtaeaacdjiijooaaW.PrintWords Go.Proofs.YtaeaacdjiijooaaW.PrintLast Go.Proofs.YtaeaacdjiijooaaW.PrintMore
open Go.Proofs.Ytaeaacdjiijooaa.Pr (S29 k29)
set_option linter.unusedVariables false
set_option linter.unusedSimpArgs false
theorem ev_calm {P : Program} {fn : FuncId} {o : Oper} {a : Act} {w : World} (h : calm o.op = true) : Lift.Ev (listed P fn a o w) := ev_seen (runT_ev P _ (still_calm _ _ h) w #[] ev_nil)
theorem gaps_awake : Pr.draw_Gaps.f 100 3 [⟨1, 5⟩] = some ([⟨0, 1⟩, ⟨5, 8⟩], 0) := by kernel_rfl
theorem pair_awake : Pr.draw_Pair.f 3 9 4 = some (1, 5, 0) := by kernel_rfl
def PairR (w : World) (a b e : Int) (v : Value) (w' : World) : Prop := v = .tuple #[.agg #[.int .u64 a, .int .u64 b], .int .i64 e] ∧ Bel w.heap.size w w'
theorem pair_blind (w : World) (a b e : Int) : Blind (PairR w a b e) := fun v w' τ d h => ⟨h.1, h.2.os, h.2.output, h.2.size, h.2.block⟩
theorem pair_on (h a b r1 r2 r3 : Int) (hf : Pr.draw_Pair.f h a b = some (r1, r2, r3)) (w : World) (σ : Nat → Question → Nat) :
    Calls Try.prog 12 #[.int .i64 h, .int .u64 a, .int .u64 b] (w.on σ 0) fun e w' => ∃ v, e = .returned v ∧ PairR w r1 r2 r3 v w' :=
  (Pr.draw_Pair.calls h a b r1 r2 r3 (w.on σ 0) hf).mono fun e w' ⟨he, hb⟩ => ⟨_, he, rfl, bel_on hb⟩
def GapsR (w : World) (xs : List S29) (e : Int) (v : Value) (w' : World) : Prop := ∃ v0, v = .tuple #[v0, .int .i64 e] ∧ Kd.R k29 29 w' w.heap.size (fun _ => True) v0 xs ∧ Bel w.heap.size w w'
theorem gaps_blind (w : World) (xs : List S29) (e : Int) : Blind (GapsR w xs e) := fun v w' τ d ⟨v0, h1, h2, h⟩ => ⟨v0, h1, h2, h.os, h.output, h.size, h.block⟩
theorem gaps_on (k : Nat) (h : Int) (A : Option Addr) (c : Nat) (l xs : List S29) (e : Int) (w : World) (hr : Kd.C k29 w A l.length l) (hc : l.length ≤ c) (hf : Pr.draw_Gaps.f k h l = some (xs, e)) (σ : Nat → Question → Nat) :
    Calls Try.prog 21 #[.int .i64 h, .slice A l.length c] (w.on σ 0) fun e' w' => ∃ v, e' = .returned v ∧ GapsR w xs e v w' :=
  (Pr.draw_Gaps.calls k h A c l xs e (w.on σ 0) hr hc hf).mono fun e' w' ⟨v0, he, h1, h2⟩ => ⟨_, he, v0, rfl, h1, bel_on h2⟩
theorem R_ok {e : Nat} {w : World} {base : Nat} {ok ok' : Nat → Prop} {v : Value} {xs : List S29} (h : Kd.R k29 e w base ok v xs) (hv : ∀ k, v.ownBlock = some k → ok' k) : Kd.R k29 e w base ok' v xs := ⟨hv, h.2.imp_ fun p c hp => hp⟩
/-- A frame's goroutine of awake at the call of draw.Plan. -/
noncomputable def opsA3 : Array Oper := match Try.f25.body with
  | some (.seq _ (.seq _ (.seq _ (.seq (.region _ ops _) _)))) => ops
  | _ => #[]
def TA3 (gb : Nat) (t111 t117 : Int) (v118 X : Value) (J : Nat → Value) : Array Value :=
  #[.bool false, .pointer (some ⟨gb, 0, none⟩), .int .i64 t111, v118, .int .i64 t117, J 5, J 6, J 7, J 8, J 9, J 10, J 11, J 12, J 13, J 14, J 15, J 16, J 17, J 18, J 19, J 20, J 21, X, J 23, J 24, J 25, J 26, J 27, J 28, J 29, J 30, J 31, J 32, J 33, J 34, J 35, J 36, J 37, J 38, J 39, J 40, J 41, J 42, J 43, J 44, J 45, J 46, J 47, J 48, J 49, J 50, J 51, J 52, J 53, J 54, J 55, J 56, J 57, J 58, J 59, J 60, J 61, J 62, J 63, J 64, J 65, J 66, J 67, J 68, J 69, J 70, J 71, J 72, J 73, J 74, J 75, J 76, J 77, J 78, J 79, J 80, J 81, J 82]
set_option maxHeartbeats 4000000 in
set_option maxRecDepth 100000 in
theorem awake_pre (cs : List Frame) (w : World) :
    GoesW Try.prog true AtRel D0 (fun g w' => ∃ (gb : Nat) (A1 A2 : Option Addr) (c1 c2 : Nat) (v : Value) (J : Nat → Value),
        g = G ((base 25).at ⟨TA3 gb 0 0 v (.slice A2 3 c2) J, []⟩ [.inRegion opsA3 [1, 2, 3, 4, 5, 6], .code Pr.restA]) cs ∧
        w.heap.size ≤ gb ∧ Below w.heap.size w w' ∧ w'.heap[gb]? = some (.cells #[.int .u64 1, .int .u64 5] 29 (0, 0)) ∧
        Kd.R k29 29 w' w.heap.size (fun k => (True ∧ k ≠ gb) ∧ some k ≠ v.ownBlock) (.slice A1 1 c1) [⟨1, 5⟩] ∧
        Kd.R k29 29 w' w.heap.size (fun k => (True ∧ some k ≠ (.slice A1 1 c1 : Value).ownBlock) ∧ k ≠ gb) v [⟨0, 1⟩, ⟨5, 8⟩] ∧
        Kd.R (Kd.int .u64) 22 w' w.heap.size (fun _ => True) (.slice A2 3 c2) [9, 4, 2])
      (G (Frame.enter Try.prog 25 #[] .normal) cs) w := by
  rw [enter_at _ Try.func25 (by rfl)]
  have hu29 := Try.underlying29
  simp only [Try.f25, List.size_toArray, List.length_cons, List.length_nil, Nat.reduceAdd, Nat.reduceSub, Array.replicate_succ, Array.replicate_zero, List.push_toArray, List.append_toArray, List.nil_append, List.cons_append]
  have HA : AtRel w w := at_self w
  repeat (first | (refine gw_step rfl (fun w₁ h₁ => ?_); replace HA := atRel_trans _ _ _ HA h₁; clear h₁; first | (refine goes_oper_k rfl rfl (by decide) (fun K hK => ?_); go_simp; refine hK _ _ ⟨(by first | exact ev_calm (by rfl) | exact d0_l (listed_nil (by simp [go_sem, *]))), ?_⟩; clear hK K) | ((first | rw [stepG_seq] | rw [stepG_skip] | rw [stepG_block] | rw [stepG_loop] | rw [stepG_inLoop] | rw [stepG_inBlock] | rw [stepG_region_end] | (rw [stepG_region]; simp only [List.size_toArray, List.length_cons, List.length_nil, Nat.reduceAdd, Nat.zero_add, List.range, List.range.loop])); simp only [goes_go]; refine ⟨d0_nil _ _, ?_⟩)))
  refine gw_call chk7 rfl rfl (by decide) rfl rfl rfl (pair_blind w 1 5 0) ?_ ?_
  · intro σ
    obtain ⟨d, rfl⟩ := HA
    simp only [List.map_toArray, List.map_cons, List.map_nil]
    exact pair_on 3 9 4 1 5 0 pair_awake w σ
  rintro v w₂ ⟨rfl, hs⟩ ht
  have hb1 : Below w.heap.size w w₂ := hs.below (ht.trans (by obtain ⟨d, rfl⟩ := HA; rfl))
  clear HA hs ht
  have HA : AtRel w₂ w₂ := at_self w₂
  try simp only [Act.put]
  repeat (first | (refine gw_step rfl (fun w₁ h₁ => ?_); replace HA := atRel_trans _ _ _ HA h₁; clear h₁; first | (refine goes_oper_k rfl rfl (by decide) (fun K hK => ?_); go_simp; refine hK _ _ ⟨(by first | exact ev_calm (by rfl) | exact d0_l (listed_nil (by simp [go_sem, *]))), ?_⟩; clear hK K) | ((first | rw [stepG_seq] | rw [stepG_skip] | rw [stepG_block] | rw [stepG_loop] | rw [stepG_inLoop] | rw [stepG_inBlock] | rw [stepG_region_end] | (rw [stepG_region]; simp only [List.size_toArray, List.length_cons, List.length_nil, Nat.reduceAdd, Nat.zero_add, List.range, List.range.loop])); simp only [goes_go]; refine ⟨d0_nil _ _, ?_⟩)))
  obtain ⟨d, rfl⟩ := HA
  obtain ⟨gb, hgb⟩ : ∃ g, g = w₂.heap.size := ⟨_, rfl⟩
  have ec : (w₂.at d).heap.size = gb := hgb.symm
  obtain ⟨wb, hwb⟩ : ∃ x, x = w₂.alloc (.cells #[.int .u64 0, .int .u64 0] 29) := ⟨_, rfl⟩
  have hblk : wb.heap[gb]? = some (.cells #[.int .u64 0, .int .u64 0] 29 (0, 0)) := by rw [hwb, hgb]; exact heap_alloc_new w₂ _
  have hbb : Below w.heap.size w wb := by rw [hwb]; exact below_alloc hb1 _
  have hgw : w.heap.size ≤ gb := by rw [hgb]; exact hb1.size
  have HA : AtRel wb ((w₂.at d).alloc (.cells #[.int .u64 0, .int .u64 0] 29)) := by rw [hwb]; exact ⟨d, rfl⟩
  simp only [Act.put, ec]
  generalize (w₂.at d).alloc (.cells #[.int .u64 0, .int .u64 0] 29) = w3 at HA ⊢
  clear ec hwb hgb
  refine gw_step rfl (fun w₁ h₁ => ?_)
  replace HA := atRel_trans _ _ _ HA h₁
  clear h₁
  obtain ⟨d2, rfl⟩ := HA
  have hc0 : (wb.at d2).cell? ⟨gb, 0, none⟩ = some (.int .u64 0) := (blk_cell hblk 0).trans rfl
  have hc1 : (wb.at d2).cell? ⟨gb, 1, none⟩ = some (.int .u64 0) := (blk_cell hblk 1).trans rfl
  have hz0 : (wb.at d2).frozen? ⟨gb, 0, none⟩ = false := blk_frozen hblk 0
  have hz1 : (wb.at d2).frozen? ⟨gb, 1, none⟩ = false := blk_frozen hblk 1
  refine goes_oper_k rfl rfl (by decide) (fun K hK => ?_)
  go_simp
  refine hK _ _ ⟨ev_calm (by rfl), ?_⟩
  clear hK K hc0 hc1 hz0 hz1
  obtain ⟨ws, hws⟩ : ∃ x, x = (wb.setCell ⟨gb, 0, none⟩ (.int .u64 1)).setCell ⟨gb, 1, none⟩ (.int .u64 5) := ⟨_, rfl⟩
  have hblk2 : ws.heap[gb]? = some (.cells #[.int .u64 1, .int .u64 5] 29 (0, 0)) := by
    rw [hws]
    exact blk_put (cs := #[.int .u64 1, .int .u64 0]) (blk_put (cs := #[.int .u64 0, .int .u64 0]) hblk 0 _ rfl) 1 _ rfl
  have hbs : Below w.heap.size w ws := by rw [hws]; exact below_set (below_set hbb hgw) hgw
  have HA : AtRel ws (((wb.at d2).setCell ⟨gb, 0, none⟩ (.int .u64 1)).setCell ⟨gb, 1, none⟩ (.int .u64 5)) := by rw [hws]; exact ⟨d2, rfl⟩
  generalize ((wb.at d2).setCell ⟨gb, 0, none⟩ (.int .u64 1)).setCell ⟨gb, 1, none⟩ (.int .u64 5) = w4 at HA ⊢
  clear hws
  repeat (first | (refine gw_step rfl (fun w₁ h₁ => ?_); replace HA := atRel_trans _ _ _ HA h₁; clear h₁; first | (refine goes_oper_k rfl rfl (by decide) (fun K hK => ?_); go_simp; refine hK _ _ ⟨(by first | exact ev_calm (by rfl) | exact d0_l (listed_nil (by simp [go_sem, *]))), ?_⟩; clear hK K) | ((first | rw [stepG_seq] | rw [stepG_skip] | rw [stepG_block] | rw [stepG_loop] | rw [stepG_inLoop] | rw [stepG_inBlock] | rw [stepG_region_end] | (rw [stepG_region]; simp only [List.size_toArray, List.length_cons, List.length_nil, Nat.reduceAdd, Nat.zero_add, List.range, List.range.loop])); simp only [goes_go]; refine ⟨d0_nil _ _, ?_⟩)))
  refine gw_step rfl (fun w₁ h₁ => ?_)
  replace HA := atRel_trans _ _ _ HA h₁
  clear h₁
  obtain ⟨d3, rfl⟩ := HA
  have hc0 : (ws.at d3).cell? ⟨gb, 0, none⟩ = some (.int .u64 1) := (blk_cell hblk2 0).trans rfl
  have hc1 : (ws.at d3).cell? ⟨gb, 1, none⟩ = some (.int .u64 5) := (blk_cell hblk2 1).trans rfl
  refine goes_oper_k rfl rfl (by decide) (fun K hK => ?_)
  go_simp
  refine hK _ _ ⟨ev_calm (by rfl), ?_⟩
  clear hK K hc0 hc1
  have HA : AtRel ws (ws.at d3) := ⟨d3, rfl⟩
  generalize ws.at d3 = w5 at HA ⊢
  try simp only [Act.put]
  repeat (first | (refine gw_step rfl (fun w₁ h₁ => ?_); replace HA := atRel_trans _ _ _ HA h₁; clear h₁; first | (refine goes_oper_k rfl rfl (by decide) (fun K hK => ?_); go_simp; refine hK _ _ ⟨(by first | exact ev_calm (by rfl) | exact d0_l (listed_nil (by simp [go_sem, *]))), ?_⟩; clear hK K) | ((first | rw [stepG_seq] | rw [stepG_skip] | rw [stepG_block] | rw [stepG_loop] | rw [stepG_inLoop] | rw [stepG_inBlock] | rw [stepG_region_end] | (rw [stepG_region]; simp only [List.size_toArray, List.length_cons, List.length_nil, Nat.reduceAdd, Nat.zero_add, List.range, List.range.loop])); simp only [goes_go]; refine ⟨d0_nil _ _, ?_⟩)))
  obtain ⟨d4, rfl⟩ := HA
  obtain ⟨g1, hg1⟩ : ∃ g, g = ws.heap.size := ⟨_, rfl⟩
  have ec : (ws.at d4).heap.size = g1 := hg1.symm
  obtain ⟨wl, hwl⟩ : ∃ x, x = ws.alloc (.cells #[.int .u64 1, .int .u64 5] 29) := ⟨_, rfl⟩
  have hbl : Below w.heap.size w wl := by rw [hwl]; exact below_alloc hbs _
  have hlt : gb < g1 := by rw [hg1]; exact blk_lt hblk2
  have hsz : wl.heap.size = g1 + 1 := by rw [hwl, hg1]; exact Array.size_push _
  have hR1 : Kd.R k29 29 wl w.heap.size (fun k => True ∧ k ≠ gb) (.slice (some ⟨g1, 0, none⟩) 1 1) [⟨1, 5⟩] := by
    rw [hwl, hg1]
    have hlt2 := blk_lt hblk2
    exact ⟨fun k hk => by cases hk; exact ⟨trivial, show ws.heap.size ≠ gb by omega⟩, _, World.ownsRow_lit ws #[.int .u64 1, .int .u64 5] 1 hbs.size (by simp [maxLen]) rfl, Reps.c2 (Pr.k29_mkM _ _ _ ⟨1, 5⟩) (Reps.none _ _)⟩
  have hblk3 : wl.heap[gb]? = some (.cells #[.int .u64 1, .int .u64 5] 29 (0, 0)) := by rw [hwl]; exact blk_alloc hblk2 _
  have HA : AtRel wl ((ws.at d4).alloc (.cells #[.int .u64 1, .int .u64 5] 29)) := by rw [hwl]; exact ⟨d4, rfl⟩
  simp only [Act.put, ec]
  generalize (ws.at d4).alloc (.cells #[.int .u64 1, .int .u64 5] 29) = w6 at HA ⊢
  try simp only [← hg1]
  clear ec hwl hg1
  refine gw_call chk7 rfl rfl (by decide) rfl rfl rfl (gaps_blind wl [⟨0, 1⟩, ⟨5, 8⟩] 0) ?_ ?_
  · intro σ
    obtain ⟨d, rfl⟩ := HA
    simp only [List.map_toArray, List.map_cons, List.map_nil]
    exact gaps_on 100 3 (some ⟨g1, 0, none⟩) 1 [⟨1, 5⟩] _ 0 wl (Kd.R_reads' hR1).2.2 (by decide) gaps_awake σ
  rintro v w₆ ⟨v0, rfl, hRg, hs⟩ ht
  have hbg : Below wl.heap.size wl w₆ := hs.below (ht.trans (by obtain ⟨d, rfl⟩ := HA; rfl))
  clear HA hs ht
  have HA : AtRel w₆ w₆ := at_self w₆
  try simp only [Act.put]
  repeat (first | (refine gw_step rfl (fun w₁ h₁ => ?_); replace HA := atRel_trans _ _ _ HA h₁; clear h₁; first | (refine goes_oper_k rfl rfl (by decide) (fun K hK => ?_); go_simp; refine hK _ _ ⟨(by first | exact ev_calm (by rfl) | exact d0_l (listed_nil (by simp [go_sem, *]))), ?_⟩; clear hK K) | ((first | rw [stepG_seq] | rw [stepG_skip] | rw [stepG_block] | rw [stepG_loop] | rw [stepG_inLoop] | rw [stepG_inBlock] | rw [stepG_region_end] | (rw [stepG_region]; simp only [List.size_toArray, List.length_cons, List.length_nil, Nat.reduceAdd, Nat.zero_add, List.range, List.range.loop])); simp only [goes_go]; refine ⟨d0_nil _ _, ?_⟩)))
  obtain ⟨d5, rfl⟩ := HA
  obtain ⟨g2, hg2⟩ : ∃ g, g = w₆.heap.size := ⟨_, rfl⟩
  have ec : (w₆.at d5).heap.size = g2 := hg2.symm
  obtain ⟨wm, hwm⟩ : ∃ x, x = w₆.alloc (.cells #[.int .u64 9, .int .u64 4, .int .u64 2] 22) := ⟨_, rfl⟩
  have hb6 : Below w.heap.size w w₆ := hbl.trans (hbg.mono hbl.size)
  have HA : AtRel wm ((w₆.at d5).alloc (.cells #[.int .u64 9, .int .u64 4, .int .u64 2] 22)) := by rw [hwm]; exact ⟨d5, rfl⟩
  simp only [Act.put, ec]
  generalize (w₆.at d5).alloc (.cells #[.int .u64 9, .int .u64 4, .int .u64 2] 22) = w7 at HA ⊢
  clear ec
  refine .stop fun w₈ h₈ => ?_
  replace HA := atRel_trans _ _ _ HA h₈
  obtain ⟨d6, rfl⟩ := HA
  have hbm : Below w.heap.size w wm := by rw [hwm]; exact below_alloc hb6 _
  have hkm : wm.heap[gb]? = some (.cells #[.int .u64 1, .int .u64 5] 29 (0, 0)) := by rw [hwm]; exact blk_alloc (blk_below hblk3 hbg) _
  refine ⟨gb, some ⟨g1, 0, none⟩, some ⟨g2, 0, none⟩, 1, 3, v0, fun i => if i = 11 then .tuple #[.agg #[.int .u64 1, .int .u64 5], .int .i64 0] else if i = 12 then .tuple #[.agg #[.int .u64 1, .int .u64 5], .int .i64 0] else if i = 13 then .agg #[.int .u64 1, .int .u64 5] else if i = 14 then .int .i64 0 else if i = 15 then .tuple #[v0, .int .i64 0] else if i = 16 then .agg #[.int .u64 1, .int .u64 5] else if i = 17 then .slice (some ⟨g1, 0, none⟩) 1 1 else if i = 18 then .tuple #[v0, .int .i64 0] else if i = 19 then v0 else if i = 20 then .int .i64 0 else undef, rfl, hgw, below_at hbm d6, hkm, ?_, ?_, ?_⟩
  · have h1 : Kd.R k29 29 wm w.heap.size (fun k => True ∧ k ≠ gb) (.slice (some ⟨g1, 0, none⟩) 1 1) [⟨1, 5⟩] := by rw [hwm]; exact Kd.R_alloc (Kd.R_below hR1 hbg) _
    exact R_ok h1 fun k hk => by
      cases hk
      exact ⟨⟨trivial, show g1 ≠ gb by omega⟩, fun e => by have h2 : wl.heap.size ≤ g1 := Kd.R_base hRg g1 e.symm; omega⟩
  · have h1 : Kd.R k29 29 wm w.heap.size (fun _ => True) v0 [⟨0, 1⟩, ⟨5, 8⟩] := by rw [hwm]; exact Kd.R_alloc (Kd.R_lower hRg hbl.size) _
    exact R_ok h1 fun k hk => by
      have := Kd.R_base hRg k hk
      exact ⟨⟨trivial, fun e => by have e2 : k = g1 := Option.some.inj e; omega⟩, by omega⟩
  · have h1 : Kd.R (Kd.int .u64) 22 wm w.heap.size (fun _ => True) (.slice (some ⟨g2, 0, none⟩) 3 3) [9, 4, 2] := by
      rw [hwm, hg2]
      exact ⟨fun _ _ => trivial, _, World.ownsRow_lit w₆ #[.int .u64 9, .int .u64 4, .int .u64 2] 3 hb6.size (by simp [maxLen]) rfl, reps_int _ _ _ [9, 4, 2]⟩
    exact h1
end Go.Proofs.Ytaeaacdjiijooaa.Co

namespace Go.Proofs.Ytaeaacdjiijooaa.Co
open Go.Conc Go.RowKit Go.Proofs.Ytaeaacdjiijooaa.Lift Go.Proofs.YtaeaacdjiijooaaW.PrintWords Go.Proofs.YtaeaacdjiijooaaW.PrintLast Go.Proofs.YtaeaacdjiijooaaW.PrintMore
open Go.Proofs.Ytaeaacdjiijooaa.Pr (S29 k29)
set_option linter.unusedVariables false
set_option linter.unusedSimpArgs false
def toPr (x : Dp.S29) : S29 := ⟨x.f0, x.f1⟩
theorem R_conv {w : World} {base : Nat} {ok : Nat → Prop} {v : Value} {xs : List Dp.S29} (h : Kd.R Dp.k29 29 w base ok v xs) : Kd.R k29 29 w base ok v (xs.map toPr) := by
  obtain ⟨h0, inner, ho, h1, h2⟩ := h
  refine ⟨h0, inner, by rw [List.length_map]; exact ho, by rw [List.length_map]; exact h1, fun j p hj => ?_⟩
  rw [List.getElem?_map] at hj
  obtain ⟨x, hx, rfl⟩ := Option.map_eq_some_iff.1 hj
  exact h2 j x hx
/-- A wp over a body's end, as gw_rest wants it. -/
theorem rest_post {fn : Func} {r : Bool} {w : World} {σ : Nat → Question → Nat} {e : Exit} {a : Act} {w' : World} (hq : bodyPost Try.prog fn (fun e w' => e = .returned (.bool r) ∧ Below w.heap.size (w.on σ 0) w') e a w') :
    bodyPost Try.prog fn (fun e w' => ∃ v, e = .returned v ∧ (v = .bool r ∧ Bel w.heap.size w w')) e a w' := by
  cases e with
  | normal => obtain ⟨h1, v, h2, h3, h4⟩ := hq; exact ⟨h1, v, h2, v, rfl, by injection h3, bel_on h4⟩
  | ret => obtain ⟨h1, v, h2, h3, h4⟩ := hq; exact ⟨h1, v, h2, v, rfl, by injection h3, bel_on h4⟩
  | panic chain => obtain ⟨_, h3, _⟩ := hq; cases h3
  | exit id => exact hq.elim
  | goto l => exact hq.elim
  | outgrown => obtain ⟨h3, _⟩ := hq; cases h3
theorem plan_awake : planR 3 [9, 4, 2] = ([⟨1, 5⟩], 0) := by kernel_rfl
set_option maxHeartbeats 4000000 in
set_option maxRecDepth 100000 in
theorem awake_H : ((Pr.draw_Reach.f 100 3 (([(⟨1, 5⟩ : S29), (⟨4, 6⟩ : S29)] : List (S29)))).bind fun bt130 => ((Pr.draw_Pair.f 64 1 2).bind fun bt132 => (if (0) = 0 then (if ((1) == 1 && ((5) == 5)) = true then (if (0) = 0 then ((Pr.paymasterref22_Same.f 100 (([⟨0, 1⟩, ⟨5, 8⟩] : List S29)) (([(⟨0, 1⟩ : S29), (⟨5, 8⟩ : S29)] : List (S29)))).bind fun t139 => (if t139 = true then (if (0) = 0 then (if ((([⟨1, 5⟩] : List S29)).length : Int) = 1 then (if 0 < ((([⟨1, 5⟩] : List S29)).length : Int) then (if (((Pr.rd_T29 (([⟨1, 5⟩] : List S29)) 0).f0) == (1) && (((Pr.rd_T29 (([⟨1, 5⟩] : List S29)) 0).f1) == (5))) = true then (if bt130.2 = 0 then (if bt130.1 = 5 then (some (bt132.2.2 == 120)) else (some false)) else (some false)) else (some false)) else (none)) else (some false)) else (some false)) else (some false))) else (some false)) else (some false)) else (some false)))) = some true := by kernel_rfl
set_option maxHeartbeats 4000000 in
set_option maxRecDepth 100000 in
/-- ████ awake's COURSE. ████ -/
theorem awake_course (cs : List Frame) (w : World) : Course Try.prog (AtLeave Try.prog 25 (LawPost w) cs) (G (Frame.enter Try.prog 25 #[] .normal) cs) w := by
  refine (Course.goes (awake_pre cs w)).andThen fun g w₁ hS => ?_
  obtain ⟨gb, A1, A2, c1, c2, v0, J, rfl, hgw, hb, hblk, h115, h119, h122⟩ := hS
  refine Course.call (o := opsA3[1]) (body := Try.f14.body.getD .skip) rfl rfl (by decide) rfl Try.func14 (by decide) rfl (vs := #[.int .i64 3, .slice A2 3 c2]) ?_ (plan_course 3 A2 c2 [9, 4, 2] _ w₁ (Kd.R_reads' h122).2.2) ?_
  · simp [Act.eval, TA3]
  rintro v w₂ ⟨v, rfl, hS, hb₂⟩
  rw [plan_awake] at hS ⊢
  have hS' : Kd.R k29 29 w₂ w₁.heap.size (fun _ => True) v [⟨1, 5⟩] := R_conv hS
  clear hS
  have hbb : Below w.heap.size w w₂ := hb.trans (hb₂.mono hb.size)
  have hk2 : w₂.heap[gb]? = some (.cells #[.int .u64 1, .int .u64 5] 29 (0, 0)) := blk_below hblk hb₂
  have hgl := blk_lt hblk
  have k115 : Kd.R k29 29 w₂ w.heap.size (fun k => ((True ∧ k ≠ gb) ∧ some k ≠ v0.ownBlock) ∧ some k ≠ v.ownBlock) (.slice A1 1 c1) [⟨1, 5⟩] :=
    R_ok (Kd.R_below h115 hb₂) fun k hk => ⟨h115.1 k hk, fun e => by have h1 := Kd.R_lt h115 k hk; have h2 := Kd.R_base hS' k e.symm; omega⟩
  have k119 : Kd.R k29 29 w₂ w.heap.size (fun k => ((True ∧ some k ≠ (.slice A1 1 c1 : Value).ownBlock) ∧ k ≠ gb) ∧ some k ≠ v.ownBlock) v0 [⟨0, 1⟩, ⟨5, 8⟩] :=
    R_ok (Kd.R_below h119 hb₂) fun k hk => ⟨h119.1 k hk, fun e => by have h1 := Kd.R_lt h119 k hk; have h2 := Kd.R_base hS' k e.symm; omega⟩
  have k122 := Kd.R_below h122 hb₂
  have k126 : Kd.R k29 29 w₂ w.heap.size (fun k => ((True ∧ some k ≠ (.slice A1 1 c1 : Value).ownBlock) ∧ some k ≠ v0.ownBlock) ∧ k ≠ gb) v [⟨1, 5⟩] :=
    R_ok (Kd.R_lower hS' hb.size) fun k hk => by
      have h2 := Kd.R_base hS' k hk
      exact ⟨⟨⟨trivial, fun e => by have h1 := Kd.R_lt h115 k e.symm; omega⟩, fun e => by have h1 := Kd.R_lt h119 k e.symm; omega⟩, by omega⟩
  refine Course.goes ?_
  have HA : AtRel w₂ w₂ := at_self w₂
  simp only [opsA3, Try.f25, TA3, Act.put]
  repeat (first | (refine gw_step rfl (fun w₁ h₁ => ?_); replace HA := atRel_trans _ _ _ HA h₁; clear h₁; first | (refine goes_oper_k rfl rfl (by decide) (fun K hK => ?_); go_simp; refine hK _ _ ⟨d0_l (listed_nil (by simp [go_sem, *])), ?_⟩; clear hK K) | ((first | rw [stepG_seq] | rw [stepG_skip] | rw [stepG_block] | rw [stepG_loop] | rw [stepG_inLoop] | rw [stepG_inBlock] | rw [stepG_region_end] | (rw [stepG_region]; simp only [List.size_toArray, List.length_cons, List.length_nil, Nat.reduceAdd, Nat.zero_add, List.range, List.range.loop])); simp only [goes_go]; refine ⟨d0_nil _ _, ?_⟩)))
  obtain ⟨d, rfl⟩ := HA
  have hrest := gw_rest chk7 Try.func25 rfl rfl (c := Pr.restA) (by kernel_rfl) (T := Pr.TA gb 0 0 0 v0 v (fun i => if i = 21 then .tuple #[v, .int .i64 0] else if i = 22 then .slice A2 3 c2 else if i = 23 then .tuple #[v, .int .i64 0] else if i = 24 then v else if i = 25 then .int .i64 0 else J i)) (law_blind w) (w := w₂.at d) (fun σ => ?_) cs
  · exact hrest.mono fun g w₃ hL => hL.mono fun v' hv => ⟨hv.1.1, hv.1.2.below (hv.2.trans hbb.tape)⟩
  · exact wp_mono (Pr.awake_rest 100 true rfl (w.on σ 0) (w₂.on σ 0) 1 5 0 0 0 [⟨0, 1⟩, ⟨5, 8⟩] [⟨1, 5⟩] [⟨1, 5⟩] [9, 4, 2] gb A1 A2 c1 c2 v0 v _ hgw ⟨hbb.os, rfl, hbb.output, hbb.size, hbb.block⟩ hk2 k115 k119 k122 k126 awake_H) fun e a w₄ hq => rest_post hq
end Go.Proofs.Ytaeaacdjiijooaa.Co

namespace Go.Proofs.Ytaeaacdjiijooaa.Co
open Go.Conc Go.RowKit Go.Proofs.Ytaeaacdjiijooaa.Lift Go.Proofs.YtaeaacdjiijooaaW.PrintWords Go.Proofs.YtaeaacdjiijooaaW.PrintLast Go.Proofs.YtaeaacdjiijooaaW.PrintMore
open Go.Proofs.Ytaeaacdjiijooaa.Pr (S29 k29)
set_option linter.unusedVariables false
set_option linter.unusedSimpArgs false
def ReachedPure : Prop := ∀ (a0 : Int) (l1 : List S29) (a2 : Int), (Lit.int .i64 a0).wf = true → (∀ x, x ∈ l1 → (Lit.int .u64 x.f0).wf = true ∧ (Lit.int .u64 x.f1).wf = true) → (Lit.int .u64 a2).wf = true →
  ∃ k, (if (l1.length : Int) > 60 then (some true) else ((Pr.draw_Gaps.f k a0 l1).bind fun bt161 => ((Pr.draw_Reach.f k a0 l1).bind fun bt165 => (if bt161.2 = bt165.2 then (if bt161.2 = 0 then (Pr.paymasterlaw22_DrawReached.l0 k a0 l1 a2 bt161.1 bt165.1 0) else (if (bt161.1.length : Int) = 0 then (some (bt165.1 == 0)) else (some false))) else (some false))))) = some true
set_option maxHeartbeats 4000000 in
set_option maxRecDepth 100000 in
theorem reached_course (hP : ReachedPure) (a0 : Int) (A1 : Option Addr) (c1 : Nat) (l1 : List S29) (a2 : Int) (w : World) (hr1 : Kd.C k29 w A1 l1.length l1) (hc1 : l1.length ≤ c1) (w0 : (Lit.int .i64 a0).wf = true) (w1 : ∀ x, x ∈ l1 → (Lit.int .u64 x.f0).wf = true ∧ (Lit.int .u64 x.f1).wf = true) (w2 : (Lit.int .u64 a2).wf = true) :
    Course Try.prog (AtLeave Try.prog 8 (LawPost w) []) (G (Frame.enter Try.prog 8 #[.int .i64 a0, .slice A1 l1.length c1, .int .u64 a2] .normal) []) w := by
  obtain ⟨k, hk⟩ := hP a0 l1 a2 w0 w1 w2
  refine Course.of ?_
  rw [enter_at _ Try.func8 (by rfl)]
  simp only [Try.f8, List.size_toArray, List.length_cons, List.length_nil, Nat.reduceAdd, Nat.reduceSub, Array.replicate_succ, Array.replicate_zero, List.push_toArray, List.append_toArray, List.nil_append, List.cons_append]
  have HA : AtRel w w := at_self w
  repeat (first | (refine gw_step rfl (fun w₁ h₁ => ?_); replace HA := atRel_trans _ _ _ HA h₁; clear h₁; first | (refine goes_oper_k rfl rfl (by decide) (fun K hK => ?_); go_simp; refine hK _ _ ⟨d0_l (listed_nil (by simp [go_sem, *])), ?_⟩; clear hK K) | ((first | rw [stepG_seq] | rw [stepG_skip] | rw [stepG_block] | rw [stepG_loop] | rw [stepG_inLoop] | rw [stepG_inBlock] | rw [stepG_region_end] | (rw [stepG_region]; simp only [List.size_toArray, List.length_cons, List.length_nil, Nat.reduceAdd, Nat.zero_add, List.range, List.range.loop])); simp only [goes_go]; refine ⟨d0_nil _ _, ?_⟩)))
  refine .stop fun w₁ h₁ => ?_
  replace HA := atRel_trans _ _ _ HA h₁
  obtain ⟨d, rfl⟩ := HA
  clear h₁
  refine Course.call rfl rfl (by decide) rfl Try.func25 (by decide) rfl (vs := #[]) (by simp) (awake_course _ (w.at d)) ?_
  rintro v w₂ ⟨rfl, hb₂⟩
  have hbb : Below w.heap.size w w₂ := ⟨hb₂.os, hb₂.tape, hb₂.output, hb₂.size, hb₂.block⟩
  clear hb₂
  refine Course.goes ?_
  have HA : AtRel w₂ w₂ := at_self w₂
  try simp only [Act.put]
  repeat (first | (refine gw_step rfl (fun w₁ h₁ => ?_); replace HA := atRel_trans _ _ _ HA h₁; clear h₁; first | (refine goes_oper_k rfl rfl (by decide) (fun K hK => ?_); go_simp; refine hK _ _ ⟨d0_l (listed_nil (by simp [go_sem, *])), ?_⟩; clear hK K) | ((first | rw [stepG_seq] | rw [stepG_skip] | rw [stepG_block] | rw [stepG_loop] | rw [stepG_inLoop] | rw [stepG_inBlock] | rw [stepG_region_end] | (rw [stepG_region]; simp only [List.size_toArray, List.length_cons, List.length_nil, Nat.reduceAdd, Nat.zero_add, List.range, List.range.loop])); simp only [goes_go]; refine ⟨d0_nil _ _, ?_⟩)))
  refine gw_step rfl (fun w₁ h₁ => ?_)
  replace HA := atRel_trans _ _ _ HA h₁
  clear h₁
  rw [stepG_cond (t := false) rfl]
  simp only [goes_go, if_true, if_false, Bool.false_eq_true, ↓reduceIte]
  refine ⟨d0_nil _ _, ?_⟩
  refine gw_step rfl (fun w₁ h₁ => ?_)
  replace HA := atRel_trans _ _ _ HA h₁
  clear h₁
  rw [stepG_skip]
  simp only [goes_go]
  refine ⟨d0_nil _ _, ?_⟩
  obtain ⟨d, rfl⟩ := HA
  have hrest := gw_rest chk7 Try.func8 rfl rfl (c := Pr.restW) (by kernel_rfl) (T := Pr.TW a0 A1 l1.length c1 a2 (fun i => if i = 14 then .bool true else if i = 15 then .bool false else undef)) (law_blind w) (w := w₂.at d) (fun σ => ?_) []
  · exact hrest.mono fun g w₃ hL => hL.mono fun v' hv => ⟨hv.1.1, hv.1.2.below (hv.2.trans hbb.tape)⟩
  · exact wp_mono (Pr.reached_rest k a0 A1 c1 l1 a2 true (w.on σ 0) (w₂.on σ 0) hr1 hc1 ⟨hbb.os, rfl, hbb.output, hbb.size, hbb.block⟩ _ hk) fun e a w₄ hq => rest_post hq
end Go.Proofs.Ytaeaacdjiijooaa.Co

namespace Go.Proofs.Ytaeaacdjiijooaa.Co
open Go.RowKit Go.Proofs.YtaeaacdjiijooaaW.PrintWords Go.Proofs.YtaeaacdjiijooaaW.PrintLast Go.Proofs.YtaeaacdjiijooaaW.PrintMore
open Go.Proofs.Ytaeaacdjiijooaa.Pr
set_option linter.unusedVariables false
set_option linter.unusedSimpArgs false
theorem good_parts (k h : Nat) (hh : h ≤ 63) (l : List S29) (hl : l.length ≤ 60) (h0 : ∀ x, x ∈ l → 0 ≤ x.f0) (hk : 3000 ≤ k) (hg : ∀ x, x ∈ l → Pr.Good ((2 ^ h : Nat) : Int) x) :
    ∃ G n, draw_Gaps.f k (h : Int) l = some (G, 0) ∧ draw_Reach.f k (h : Int) l = some (n, 0) ∧ Pr.Can G ∧ (∀ p, Mem p G ↔ 0 ≤ p ∧ p < ((2 ^ h : Nat) : Int) ∧ ¬ Mem p l) ∧ n + Len G = ((2 ^ h : Nat) : Int) ∧ 0 ≤ n ∧ G.length ≤ 61 := by
  have hp := g_pow_nat h hh
  obtain ⟨k, rfl⟩ : ∃ m, k = m + 1 := ⟨k - 1, by omega⟩
  have hw := whole_good (k + 1) h hh l hl (by omega) hg
  obtain ⟨g1, g2, g3⟩ := spSort_good l hg
  generalize mall (spSort l) = M at hw g1 g2 g3
  have hM : ∀ x, x ∈ M → 0 ≤ x.f0 ∧ x.f1 ≤ ((2 ^ h : Nat) : Int) := fun x hx => by
    have hx1 := g1.1 x hx
    obtain ⟨y, hy, y1, y2⟩ := (g2 x.f0).1 ⟨x, hx, Int.le_refl _, hx1⟩
    obtain ⟨z, hz, z1, z2⟩ := (g2 (x.f1 - 1)).1 ⟨x, hx, by omega, by omega⟩
    have := h0 y hy
    have := (hg z hz).2
    omega
  obtain ⟨q1, q2, q3, q4, q5⟩ := gl_ok ((2 ^ h : Nat) : Int) M 0 g1 (fun x hx => (hM x hx).1) (fun x hx => (hM x hx).2) (by omega)
  refine ⟨gl 0 (M ++ [⟨((2 ^ h : Nat) : Int), 0⟩]), Len M, ?_, ?_, q1, fun p => by rw [q3, g2], by omega, len_nonneg _ g1.1, by omega⟩
  · rw [draw_Gaps.f, hw]
    simp only [Option.bind_some]
    rw [if_pos trivial, if_pos (by omega), if_pos (by omega), g_shl h hh]
    have := gaps_loop (M ++ [⟨((2 ^ h : Nat) : Int), 0⟩]) (by simp; omega) _ (k + 1) 0 [] 0 rfl (by omega) (by simp; omega) (by simp; omega)
    rw [List.drop_zero, List.nil_append] at this
    exact this
  · rw [draw_Reach.f, hw]
    simp only [Option.bind_some]
    have hn := len_nonneg _ q1.1
    have := reach_loop M 0 (by omega) g1.1 _ (k + 1) 0 0 rfl (by omega) (by omega) (by omega) (by rw [List.drop_zero]; omega)
    rw [List.drop_zero, Int.zero_add] at this
    exact this
theorem may_good (h : Nat) (hh : h ≤ 63) (x : S29) (hx : Pr.Good ((2 ^ h : Nat) : Int) x) : cover_May.f (h : Int) x.f0 x.f1 = some true := by
  unfold cover_May.f cover_high.f
  rw [if_pos (by omega)]
  simp only [Option.bind_some]
  rw [if_pos (by simp; omega), if_pos hx.1, if_pos (by omega), g_shl h hh]
  simp only [Option.some.injEq]
  exact decide_eq_true hx.2
theorem can_cnt (p : Int) : ∀ L : List S29, Pr.Can L → cnt p L ≤ 1
  | [], _ => by simp [cnt]
  | x :: r, h => by
    obtain ⟨h1, h2, h3⟩ := can_cons h
    have := can_cnt p r h3
    rw [cnt]
    split
    · next c =>
      have : ¬ 0 < cnt p r := fun hc => by
        obtain ⟨y, hy, y1, y2⟩ := (cnt_pos p r).1 hc
        have := h2 y hy
        omega
      omega
    · omega
theorem hits_any (k : Nat) (p : Int) (l : List S29) (hl : l.length ≤ 1000) (hk : 1100 ≤ k) : draw_Hits.f k l p = some ((cnt p l : Nat) : Int) := by
  have := hits_loop p l hl l.length k 0 0 (by omega) (by omega) (by omega) (by omega)
  rw [List.drop_zero, Nat.zero_add] at this
  exact this
theorem reached_loop (h : Nat) (hh : h ≤ 63) (l G : List S29) (p : Int) (hl : l.length ≤ 60) (hG : G.length ≤ 61) (hC : Pr.Can G) (hp0 : 0 ≤ p) (hE : ∀ x, x ∈ G → 0 ≤ x.f0 ∧ x.f1 ≤ ((2 ^ h : Nat) : Int)) (hM : ∀ p, Mem p G ↔ 0 ≤ p ∧ p < ((2 ^ h : Nat) : Int) ∧ ¬ Mem p l) :
    ∀ (d k i : Nat) (s : Int), G.length - i = d → i ≤ G.length → d + 2000 ≤ k → 0 ≤ s → s + Len (G.drop i) = ((2 ^ h : Nat) : Int) → paymasterlaw22_DrawReached.l0 k (h : Int) l p G s (i : Int) = some true := by
  have hpw := g_pow_nat h hh
  intro d
  induction d with
  | zero =>
    intro k i s h1 h2 hk hs hsum
    obtain ⟨k, rfl⟩ : ∃ m, k = m + 1 := ⟨k - 1, by omega⟩
    obtain rfl : i = G.length := by omega
    rw [paymasterlaw22_DrawReached.l0, if_neg (by omega), hits_any k p G (by omega) (by omega)]
    simp only [Option.bind_some]
    have hwr : IntKind.u64.wrap (h : Int) = (h : Int) := g_wrap_small (by omega) (by omega)
    rw [List.drop_length] at hsum
    have hs' : s = ((2 ^ h : Nat) : Int) := by simpa [Len] using hsum
    have hc := can_cnt p G hC
    rw [hwr, if_pos (by omega), g_shl h hh, if_pos hs', if_pos (by omega)]
    have hcg := cnt_pos p G
    by_cases c : p < ((2 ^ h : Nat) : Int)
    · rw [if_pos c, hits_any k p l (by omega) (by omega)]
      simp only [Option.bind_some, Option.some.injEq]
      have hcl := cnt_pos p l
      by_cases hm : Mem p l
      · have z : cnt p G = 0 := by
          have : ¬ Mem p G := fun hg => ((hM p).1 hg).2.2 hm
          have := mt hcg.1 this
          omega
        have := hcl.2 hm
        rw [z]
        have e : ((cnt p l : Nat) : Int) ≠ 0 := by omega
        simp [e]
        omega
      · have z : cnt p G = 1 := by
          have := hcg.2 ((hM p).2 ⟨hp0, c, hm⟩)
          omega
        have z2 : cnt p l = 0 := by
          have := mt hcl.1 hm
          omega
        rw [z, z2]
        rfl
    · rw [if_neg c]
      have z : cnt p G = 0 := by
        have : ¬ Mem p G := fun hg => c ((hM p).1 hg).2.1
        have := mt hcg.1 this
        omega
      rw [z]
      rfl
  | succ d ih =>
    intro k i s h1 h2 hk hs hsum
    obtain ⟨k, rfl⟩ : ∃ m, k = m + 1 := ⟨k - 1, by omega⟩
    have hil : i < G.length := by omega
    have hx := List.getElem_mem hil
    have hgx := hC.1 _ hx
    obtain ⟨e0, e1⟩ := hE _ hx
    rw [List.drop_eq_getElem_cons hil, Len] at hsum
    have hn := len_nonneg (G.drop (i + 1)) fun y hy => hC.1 y (List.mem_of_mem_drop hy)
    have hnext : paymasterlaw22_DrawReached.l0 k (h : Int) l p G (IntKind.u64.wrap ((IntKind.u64.wrap (s + G[i].f1)) - G[i].f0)) (wrap64 ((i : Int) + 1)) = some true := by
      have w1 : IntKind.u64.wrap (s + G[i].f1) = s + G[i].f1 := g_wrap_small (by omega) (by omega)
      have w2 : IntKind.u64.wrap (s + G[i].f1 - G[i].f0) = s + G[i].f1 - G[i].f0 := g_wrap_small (by omega) (by omega)
      rw [w1, w2, w_succ (by omega)]
      exact ih k (i + 1) _ (by omega) (by omega) (by omega) (by omega) (by omega)
    rw [paymasterlaw22_DrawReached.l0, if_pos (by omega), if_pos (by omega), rd_at G i hil, may_good h hh _ ⟨hgx, e1⟩]
    simp only [Option.bind_some, if_true]
    by_cases c : i = 0
    · subst c
      rw [if_neg (by omega)]
      exact hnext
    · have hw : wrap64 ((i : Int) - 1) = ((i - 1 : Nat) : Int) := by unfold wrap64; omega
      have hil2 : i - 1 < G.length := by omega
      rw [if_pos (by omega), hw, if_pos (by omega), if_pos (by omega), rd_at G (i - 1) hil2]
      have hlt := (List.pairwise_iff_getElem.1 hC.2) (i - 1) i hil2 hil (by omega)
      rw [if_neg (by omega)]
      exact hnext
theorem reached_pure : ReachedPure := by
  intro a0 l p _ hw hp
  have hp0 := g_u64_bd hp
  have h0 : ∀ x, x ∈ l → 0 ≤ x.f0 := fun x hx => (g_u64_bd (hw x hx).1).1
  obtain ⟨k, hk⟩ : ∃ k, 5000 ≤ k := ⟨5000, Nat.le_refl _⟩
  refine ⟨k, ?_⟩
  by_cases hl : (l.length : Int) > 60
  · rw [if_pos hl]
  rw [if_neg hl]
  have hl' : l.length ≤ 60 := by omega
  by_cases c : 0 ≤ a0 ∧ a0 ≤ 63
  · obtain ⟨h, rfl⟩ := Int.eq_ofNat_of_zero_le c.1
    have hh : h ≤ 63 := by omega
    by_cases hg : ∀ x, x ∈ l → Pr.Good ((2 ^ h : Nat) : Int) x
    · obtain ⟨G, n, e1, e2, e3, e4, e5, e6, e7⟩ := good_parts k h hh l hl' h0 (by omega) hg
      rw [e1, e2]
      simp only [Option.bind_some, if_true]
      refine reached_loop h hh l G p hl' e7 e3 hp0.1 (fun x hx => ?_) e4 G.length k 0 n (by omega) (by omega) (by omega) e6 (by rw [List.drop_zero]; exact e5)
      have hx1 := e3.1 x hx
      have a := (e4 x.f0).1 ⟨x, hx, Int.le_refl _, hx1⟩
      have b := (e4 (x.f1 - 1)).1 ⟨x, hx, by omega, by omega⟩
      omega
    · have hwb := whole_bad k h hh l hl' hg
      have e1 : draw_Gaps.f k (h : Int) l = some ([], 200) := by rw [draw_Gaps.f, hwb]; rfl
      have e2 : draw_Reach.f k (h : Int) l = some (0, 200) := by
        obtain ⟨k, rfl⟩ : ∃ m, k = m + 1 := ⟨k - 1, by omega⟩
        rw [draw_Reach.f, hwb]; simp only [Option.bind_some]; rw [draw_Reach.l0]; rfl
      rw [e1, e2]
      rfl
  · have hwb : draw_whole.f k a0 l = some ([], 120) := by rw [draw_whole.f, if_neg c]
    have e1 : draw_Gaps.f k a0 l = some ([], 120) := by rw [draw_Gaps.f, hwb]; rfl
    have e2 : draw_Reach.f k a0 l = some (0, 120) := by
      obtain ⟨k, rfl⟩ : ∃ m, k = m + 1 := ⟨k - 1, by omega⟩
      rw [draw_Reach.f, hwb]; simp only [Option.bind_some]; rw [draw_Reach.l0]; rfl
    rw [e1, e2]
    rfl
end Go.Proofs.Ytaeaacdjiijooaa.Co
