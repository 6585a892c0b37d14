import Derived.Test.YtaeaacdjiijooaaPlR
import Derived.Test.YtaeaacdjiijooaaDpx2
import Derived.Conc.SmallLaws
namespace Go.Proofs.Ytaeaacdjiijooaa.Co
open Go.Conc Go.RowKit Go.Proofs.Ytaeaacdjiijooaa.Lift Go.Proofs.YtaeaacdjiijooaaW.PrintWords Go.Proofs.YtaeaacdjiijooaaW.PrintLast Go.Proofs.YtaeaacdjiijooaaW.PrintMore
open Go.Proofs.Ytaeaacdjiijooaa.Dp (S29 k29)
set_option linter.unusedVariables false
set_option linter.unusedSimpArgs false
/-- The same but for the tape and the count. -/
def SameOn (w w' : World) : Prop := ∃ τ d, w' = w.on τ d
theorem sameOn_atRel {w w' : World} (h : SameOn w w') (ht : w'.tape = w.tape) : AtRel w w' := by
  obtain ⟨τ, d, rfl⟩ := h
  obtain rfl : τ = w.tape := ht
  exact ⟨d, rfl⟩
theorem high_on (h : Int) (σ : Nat → Question → Nat) (w : World) : Calls Try.prog 27 #[.int .i64 h] (w.on σ 0) fun e w' => ∃ v, e = .returned v ∧ (v = .bool (decide (0 ≤ h ∧ h ≤ 63)) ∧ SameOn w w') := by
  refine (Dp.draw_high.calls h (decide (0 ≤ h ∧ h ≤ 63)) (w.on σ 0) ?_).mono ?_
  · unfold Dp.draw_high.f
    by_cases h0 : h ≥ 0
    · have h0' : 0 ≤ h := h0
      by_cases h1 : h ≤ 63 <;> simp [h0', h1]
    · have h0' : ¬ 0 ≤ h := h0
      simp [h0']
  · rintro e w' ⟨rfl, ⟨n, rfl⟩⟩
    exact ⟨_, rfl, rfl, σ, _, rfl⟩
theorem high_blind (h : Int) (w : World) : Blind fun v w' => v = .bool (decide (0 ≤ h ∧ h ≤ 63)) ∧ SameOn w w' := by
  rintro v w' τ d ⟨rfl, τ', d', rfl⟩
  exact ⟨rfl, τ, d, rfl⟩
set_option maxHeartbeats 4000000 in
set_option maxRecDepth 100000 in
/-- A HEIGHT THAT IS NONE. -/
theorem plan_low (h : Int) (hn : ¬ (0 ≤ h ∧ h ≤ 63)) (A : Option Addr) (l cp : Nat) (ds : List Int) (cs : List Frame) (w : World) :
    GoesW Try.prog true AtRel D0 (AtLeave Try.prog 14 (PlanPost h ds w) cs) (G (Frame.enter Try.prog 14 #[.int .i64 h, .slice A l cp] .normal) cs) w := by
  rw [enter_at _ Try.func14 (by rfl)]
  have hd : decide (0 ≤ h ∧ h ≤ 63) = false := decide_eq_false hn
  simp only [Try.f14, List.size_toArray, List.length_cons, List.length_nil, Nat.reduceAdd, Nat.reduceSub, Array.replicate_succ, Array.replicate_zero, List.push_toArray, List.append_toArray, List.nil_append, List.cons_append]
  have HA : AtRel w w := at_self w
  repeat (first | (refine gw_step rfl (fun w₁ h₁ => ?_); replace HA := atRel_trans _ _ _ HA h₁; clear h₁; first | (refine goes_oper_k rfl rfl (by decide) (fun K hK => ?_); go_simp; refine hK _ _ ⟨d0_l (listed_nil (by simp [go_sem, *])), ?_⟩; clear hK K) | ((first | rw [stepG_seq] | rw [stepG_skip] | rw [stepG_block] | rw [stepG_loop] | rw [stepG_inLoop] | rw [stepG_inBlock] | rw [stepG_region_end] | (rw [stepG_region]; simp only [List.size_toArray, List.length_cons, List.length_nil, Nat.reduceAdd, Nat.zero_add, List.range, List.range.loop])); simp only [goes_go]; refine ⟨d0_nil _ _, ?_⟩)))
  refine gw_call chk4 rfl rfl (by decide) rfl rfl rfl (high_blind h w) ?_ ?_
  · intro σ
    obtain ⟨d, rfl⟩ := HA
    simp only [List.map_toArray, List.map_cons, List.map_nil]
    exact high_on h σ w
  rintro v w₂ ⟨rfl, hs⟩ ht
  rw [hd]
  replace HA : AtRel w w₂ := sameOn_atRel hs (ht.trans (by obtain ⟨d, rfl⟩ := HA; rfl))
  clear hs ht
  simp only [Act.put]
  repeat (first | (refine gw_step rfl (fun w₁ h₁ => ?_); replace HA := atRel_trans _ _ _ HA h₁; clear h₁; first | (refine goes_oper_k rfl rfl (by decide) (fun K hK => ?_); go_simp; refine hK _ _ ⟨d0_l (listed_nil (by simp [go_sem, *])), ?_⟩; clear hK K) | ((first | rw [stepG_seq] | rw [stepG_skip] | rw [stepG_block] | rw [stepG_loop] | rw [stepG_inLoop] | rw [stepG_inBlock] | rw [stepG_region_end] | (rw [stepG_region]; simp only [List.size_toArray, List.length_cons, List.length_nil, Nat.reduceAdd, Nat.zero_add, List.range, List.range.loop])); simp only [goes_go]; refine ⟨d0_nil _ _, ?_⟩)))
  refine gw_step rfl (fun w₁ h₁ => ?_)
  replace HA := atRel_trans _ _ _ HA h₁
  clear h₁
  rw [stepG_cond (t := true) rfl]
  simp only [goes_go, if_true, if_false, Bool.false_eq_true, ↓reduceIte]
  refine ⟨d0_nil _ _, ?_⟩
  repeat (first | (refine gw_step rfl (fun w₁ h₁ => ?_); replace HA := atRel_trans _ _ _ HA h₁; clear h₁; first | (refine goes_oper_k rfl rfl (by decide) (fun K hK => ?_); go_simp; refine hK _ _ ⟨d0_l (listed_nil (by simp [go_sem, *])), ?_⟩; clear hK K) | ((first | rw [stepG_seq] | rw [stepG_skip] | rw [stepG_block] | rw [stepG_loop] | rw [stepG_inLoop] | rw [stepG_inBlock] | rw [stepG_region_end] | (rw [stepG_region]; simp only [List.size_toArray, List.length_cons, List.length_nil, Nat.reduceAdd, Nat.zero_add, List.range, List.range.loop])); simp only [goes_go]; refine ⟨d0_nil _ _, ?_⟩)))
  refine gw_step rfl (fun w₁ h₁ => ?_)
  replace HA := atRel_trans _ _ _ HA h₁
  clear h₁
  rw [stepG_ret']
  refine ⟨d0_nil _ _, ?_⟩
  refine .stop fun w₂ h₂ => ?_
  replace HA := atRel_trans _ _ _ HA h₂
  obtain ⟨d, rfl⟩ := HA
  have e : planR h ds = ([], 120) := by simp [planR, hn]
  exact atLeave_mk Try.func14 (results_tmp2 (by rfl) _ _ _) ⟨.slice none 0 0, by rw [e]; rfl, by rw [e]; exact Kd.R_nil _ _ _ _ _, below_at (Below.refl _ _) d⟩
set_option maxHeartbeats 4000000 in
set_option maxRecDepth 100000 in
/-- TOO MANY DRAWS. -/
theorem plan_long (h : Int) (hh : 0 ≤ h ∧ h ≤ 63) (A : Option Addr) (cp : Nat) (ds : List Int) (hl : ¬ ds.length ≤ 2048) (cs : List Frame) (w : World) :
    GoesW Try.prog true AtRel D0 (AtLeave Try.prog 14 (PlanPost h ds w) cs) (G (Frame.enter Try.prog 14 #[.int .i64 h, .slice A ds.length cp] .normal) cs) w := by
  have hcmp : decide ((2048 : Int) < (ds.length : Int)) = true := decide_eq_true (by omega)
  have hcmp' : decide (2048 < ds.length) = true := decide_eq_true (by omega)
  rw [enter_at _ Try.func14 (by rfl)]
  have hd : decide (0 ≤ h ∧ h ≤ 63) = true := decide_eq_true hh
  simp only [Try.f14, List.size_toArray, List.length_cons, List.length_nil, Nat.reduceAdd, Nat.reduceSub, Array.replicate_succ, Array.replicate_zero, List.push_toArray, List.append_toArray, List.nil_append, List.cons_append]
  have HA : AtRel w w := at_self w
  repeat (first | (refine gw_step rfl (fun w₁ h₁ => ?_); replace HA := atRel_trans _ _ _ HA h₁; clear h₁; first | (refine goes_oper_k rfl rfl (by decide) (fun K hK => ?_); go_simp; refine hK _ _ ⟨d0_l (listed_nil (by simp [go_sem, *])), ?_⟩; clear hK K) | ((first | rw [stepG_seq] | rw [stepG_skip] | rw [stepG_block] | rw [stepG_loop] | rw [stepG_inLoop] | rw [stepG_inBlock] | rw [stepG_region_end] | (rw [stepG_region]; simp only [List.size_toArray, List.length_cons, List.length_nil, Nat.reduceAdd, Nat.zero_add, List.range, List.range.loop])); simp only [goes_go]; refine ⟨d0_nil _ _, ?_⟩)))
  refine gw_call chk4 rfl rfl (by decide) rfl rfl rfl (high_blind h w) ?_ ?_
  · intro σ
    obtain ⟨d, rfl⟩ := HA
    simp only [List.map_toArray, List.map_cons, List.map_nil]
    exact high_on h σ w
  rintro v w₂ ⟨rfl, hs⟩ ht
  rw [hd]
  replace HA : AtRel w w₂ := sameOn_atRel hs (ht.trans (by obtain ⟨d, rfl⟩ := HA; rfl))
  clear hs ht
  simp only [Act.put]
  repeat (first | (refine gw_step rfl (fun w₁ h₁ => ?_); replace HA := atRel_trans _ _ _ HA h₁; clear h₁; first | (refine goes_oper_k rfl rfl (by decide) (fun K hK => ?_); go_simp; refine hK _ _ ⟨d0_l (listed_nil (by simp [go_sem, *])), ?_⟩; clear hK K) | ((first | rw [stepG_seq] | rw [stepG_skip] | rw [stepG_block] | rw [stepG_loop] | rw [stepG_inLoop] | rw [stepG_inBlock] | rw [stepG_region_end] | (rw [stepG_region]; simp only [List.size_toArray, List.length_cons, List.length_nil, Nat.reduceAdd, Nat.zero_add, List.range, List.range.loop])); simp only [goes_go]; refine ⟨d0_nil _ _, ?_⟩)))
  refine gw_step rfl (fun w₁ h₁ => ?_)
  replace HA := atRel_trans _ _ _ HA h₁
  clear h₁
  rw [stepG_cond (t := false) rfl]
  simp only [goes_go, if_true, if_false, Bool.false_eq_true, ↓reduceIte]
  refine ⟨d0_nil _ _, ?_⟩
  repeat (first | (refine gw_step rfl (fun w₁ h₁ => ?_); replace HA := atRel_trans _ _ _ HA h₁; clear h₁; first | (refine goes_oper_k rfl rfl (by decide) (fun K hK => ?_); go_simp; refine hK _ _ ⟨d0_l (listed_nil (by simp [go_sem, *])), ?_⟩; clear hK K) | ((first | rw [stepG_seq] | rw [stepG_skip] | rw [stepG_block] | rw [stepG_loop] | rw [stepG_inLoop] | rw [stepG_inBlock] | rw [stepG_region_end] | (rw [stepG_region]; simp only [List.size_toArray, List.length_cons, List.length_nil, Nat.reduceAdd, Nat.zero_add, List.range, List.range.loop])); simp only [goes_go]; refine ⟨d0_nil _ _, ?_⟩)))
  refine gw_step rfl (fun w₁ h₁ => ?_)
  replace HA := atRel_trans _ _ _ HA h₁
  clear h₁
  rw [stepG_cond (t := true) rfl]
  simp only [goes_go, if_true, if_false, Bool.false_eq_true, ↓reduceIte]
  refine ⟨d0_nil _ _, ?_⟩
  repeat (first | (refine gw_step rfl (fun w₁ h₁ => ?_); replace HA := atRel_trans _ _ _ HA h₁; clear h₁; first | (refine goes_oper_k rfl rfl (by decide) (fun K hK => ?_); go_simp; refine hK _ _ ⟨d0_l (listed_nil (by simp [go_sem, *])), ?_⟩; clear hK K) | ((first | rw [stepG_seq] | rw [stepG_skip] | rw [stepG_block] | rw [stepG_loop] | rw [stepG_inLoop] | rw [stepG_inBlock] | rw [stepG_region_end] | (rw [stepG_region]; simp only [List.size_toArray, List.length_cons, List.length_nil, Nat.reduceAdd, Nat.zero_add, List.range, List.range.loop])); simp only [goes_go]; refine ⟨d0_nil _ _, ?_⟩)))
  refine gw_step rfl (fun w₁ h₁ => ?_)
  replace HA := atRel_trans _ _ _ HA h₁
  clear h₁
  rw [stepG_ret']
  refine ⟨d0_nil _ _, ?_⟩
  refine .stop fun w₂ h₂ => ?_
  replace HA := atRel_trans _ _ _ HA h₂
  obtain ⟨d, rfl⟩ := HA
  have e : planR h ds = ([], 3) := by simp [planR, hh, hl]
  exact atLeave_mk Try.func14 (results_tmp2 (by rfl) _ _ _) ⟨.slice none 0 0, by rw [e]; rfl, by rw [e]; exact Kd.R_nil _ _ _ _ _, below_at (Below.refl _ _) d⟩
/-- Below, but for the tape. -/
structure Bel (B : Nat) (w w' : World) : Prop where
  os : w'.os = w.os
  output : w'.output = w.output
  size : w.heap.size ≤ w'.heap.size
  block : ∀ k, k < B → w'.heap[k]? = w.heap[k]?
theorem Bel.below {B : Nat} {w w' : World} (h : Bel B w w') (ht : w'.tape = w.tape) : Below B w w' := ⟨h.os, ht, h.output, h.size, h.block⟩
theorem bel_on {B : Nat} {w w' : World} {σ : Nat → Question → Nat} {d : Nat} (h : Below B (w.on σ d) w') : Bel B w w' := ⟨h.os, h.output, h.size, h.block⟩
def CloneR (w : World) (ds : List Int) (v : Value) (w' : World) : Prop := Kd.R (Kd.int .u64) 22 w' w.heap.size (fun _ => True) v ds ∧ Bel w.heap.size w w'
theorem clone_blind (w : World) (ds : List Int) : Blind (CloneR w ds) := fun v w' τ d h => ⟨h.1, h.2.os, h.2.output, h.2.size, h.2.block⟩
theorem clone_on (A : Option Addr) (c : Nat) (ds : List Int) (w : World) (hr : Kd.C (Kd.int .u64) w A ds.length ds) (hl : ds.length ≤ 2048) (σ : Nat → Question → Nat) :
    Calls Try.prog 30 #[.slice A ds.length c] (w.on σ 0) fun e w' => ∃ v, e = .returned v ∧ CloneR w ds v w' :=
  (Dp.clone64 A c ds (w.on σ 0) hr (by omega)).mono fun e w' ⟨v, he, h1, h2⟩ => ⟨v, he, h1, bel_on h2⟩
set_option maxHeartbeats 4000000 in
set_option maxRecDepth 100000 in
/-- TO THE GO STATEMENT. -/
theorem plan_go (w : World) (h : Int) (hh : 0 ≤ h ∧ h ≤ 63) (A : Option Addr) (cp : Nat) (ds : List Int) (hl : ds.length ≤ 2048) (hA : Kd.C (Kd.int .u64) w A ds.length ds) (cs : List Frame) :
    GoesW Try.prog true AtRel D0 (fun g w' => ∃ c, AtGoP Try.prog (FinR h A ds.length cp c w'.heap.size w' (ds.length / 2) ((pairsP ds 0 (ds.length / 2)).flatMap (spanC h)) cs) g w' ∧ w.heap.size ≤ c ∧ Below w.heap.size w w')
      (G (Frame.enter Try.prog 14 #[.int .i64 h, .slice A ds.length cp] .normal) cs) w := by
  have hcmp : decide ((2048 : Int) < (ds.length : Int)) = false := decide_eq_false (by omega)
  have hcmp' : decide (2048 < ds.length) = false := decide_eq_false (by omega)
  have hmk : ∀ w₁ : World, (Instr.makeChan 61 (.int .i64 0)).events Try.prog w₁ #[] = #[] := by
    intro w₁
    obtain ⟨i0, hi, hz0, hz1, hz2⟩ := info_parts (P := Try.prog) (show (Try.prog.info? 64).map (fun i => (i.zero, i.size, i.bytes)) = some (some (.agg #[.int .u64 0, .int .u64 0]), 2, 16) by kernel_rfl)
    exact events_makeChan (P := Try.prog) (w := w₁) Try.underlying61 hi .i64 0 (by decide) (by simp) #[]
  rw [enter_at _ Try.func14 (by rfl)]
  have hd : decide (0 ≤ h ∧ h ≤ 63) = true := decide_eq_true hh
  simp only [Try.f14, List.size_toArray, List.length_cons, List.length_nil, Nat.reduceAdd, Nat.reduceSub, Array.replicate_succ, Array.replicate_zero, List.push_toArray, List.append_toArray, List.nil_append, List.cons_append]
  have HA : AtRel w w := at_self w
  repeat (first | (refine gw_step rfl (fun w₁ h₁ => ?_); replace HA := atRel_trans _ _ _ HA h₁; clear h₁; first | (refine goes_oper_k rfl rfl (by decide) (fun K hK => ?_); go_simp; refine hK _ _ ⟨d0_l (listed_nil (by simp [go_sem, *])), ?_⟩; clear hK K) | ((first | rw [stepG_seq] | rw [stepG_skip] | rw [stepG_block] | rw [stepG_loop] | rw [stepG_inLoop] | rw [stepG_inBlock] | rw [stepG_region_end] | (rw [stepG_region]; simp only [List.size_toArray, List.length_cons, List.length_nil, Nat.reduceAdd, Nat.zero_add, List.range, List.range.loop])); simp only [goes_go]; refine ⟨d0_nil _ _, ?_⟩)))
  refine gw_call chk4 rfl rfl (by decide) rfl rfl rfl (high_blind h w) ?_ ?_
  · intro σ
    obtain ⟨d, rfl⟩ := HA
    simp only [List.map_toArray, List.map_cons, List.map_nil]
    exact high_on h σ w
  rintro v w₂ ⟨rfl, hs⟩ ht
  rw [hd]
  replace HA : AtRel w w₂ := sameOn_atRel hs (ht.trans (by obtain ⟨d, rfl⟩ := HA; rfl))
  clear hs ht
  simp only [Act.put]
  repeat (first | (refine gw_step rfl (fun w₁ h₁ => ?_); replace HA := atRel_trans _ _ _ HA h₁; clear h₁; first | (refine goes_oper_k rfl rfl (by decide) (fun K hK => ?_); go_simp; refine hK _ _ ⟨d0_l (listed_nil (by simp [go_sem, *])), ?_⟩; clear hK K) | ((first | rw [stepG_seq] | rw [stepG_skip] | rw [stepG_block] | rw [stepG_loop] | rw [stepG_inLoop] | rw [stepG_inBlock] | rw [stepG_region_end] | (rw [stepG_region]; simp only [List.size_toArray, List.length_cons, List.length_nil, Nat.reduceAdd, Nat.zero_add, List.range, List.range.loop])); simp only [goes_go]; refine ⟨d0_nil _ _, ?_⟩)))
  refine gw_step rfl (fun w₁ h₁ => ?_)
  replace HA := atRel_trans _ _ _ HA h₁
  clear h₁
  rw [stepG_cond (t := false) rfl]
  simp only [goes_go, if_true, if_false, Bool.false_eq_true, ↓reduceIte]
  refine ⟨d0_nil _ _, ?_⟩
  repeat (first | (refine gw_step rfl (fun w₁ h₁ => ?_); replace HA := atRel_trans _ _ _ HA h₁; clear h₁; first | (refine goes_oper_k rfl rfl (by decide) (fun K hK => ?_); go_simp; refine hK _ _ ⟨d0_l (listed_nil (by simp [go_sem, *])), ?_⟩; clear hK K) | ((first | rw [stepG_seq] | rw [stepG_skip] | rw [stepG_block] | rw [stepG_loop] | rw [stepG_inLoop] | rw [stepG_inBlock] | rw [stepG_region_end] | (rw [stepG_region]; simp only [List.size_toArray, List.length_cons, List.length_nil, Nat.reduceAdd, Nat.zero_add, List.range, List.range.loop])); simp only [goes_go]; refine ⟨d0_nil _ _, ?_⟩)))
  refine gw_step rfl (fun w₁ h₁ => ?_)
  replace HA := atRel_trans _ _ _ HA h₁
  clear h₁
  rw [stepG_cond (t := false) rfl]
  simp only [goes_go, if_true, if_false, Bool.false_eq_true, ↓reduceIte]
  refine ⟨d0_nil _ _, ?_⟩
  repeat (first | (refine gw_step rfl (fun w₁ h₁ => ?_); replace HA := atRel_trans _ _ _ HA h₁; clear h₁; first | (refine goes_oper_k rfl rfl (by decide) (fun K hK => ?_); go_simp; refine hK _ _ ⟨d0_l (listed_nil (by simp [go_sem, *])), ?_⟩; clear hK K) | ((first | rw [stepG_seq] | rw [stepG_skip] | rw [stepG_block] | rw [stepG_loop] | rw [stepG_inLoop] | rw [stepG_inBlock] | rw [stepG_region_end] | (rw [stepG_region]; simp only [List.size_toArray, List.length_cons, List.length_nil, Nat.reduceAdd, Nat.zero_add, List.range, List.range.loop])); simp only [goes_go]; refine ⟨d0_nil _ _, ?_⟩)))
  obtain ⟨d, rfl⟩ := HA
  change GoesW _ _ _ _ _ _ ((w.at d).alloc (.chan 0 #[] false 0 0 false))
  have ec : (w.at d).heap.size = w.heap.size := rfl
  have HA : AtRel (w.alloc (.chan 0 #[] false 0 0 false)) ((w.at d).alloc (.chan 0 #[] false 0 0 false)) := ⟨d, rfl⟩
  simp only [Act.put, ec]
  generalize (w.at d).alloc (.chan 0 #[] false 0 0 false) = w3 at HA ⊢
  clear ec
  repeat (first | (refine gw_step rfl (fun w₁ h₁ => ?_); replace HA := atRel_trans _ _ _ HA h₁; clear h₁; first | (refine goes_oper_k rfl rfl (by decide) (fun K hK => ?_); go_simp; refine hK _ _ ⟨d0_l (listed_nil (by simp [go_sem, *])), ?_⟩; clear hK K) | ((first | rw [stepG_seq] | rw [stepG_skip] | rw [stepG_block] | rw [stepG_loop] | rw [stepG_inLoop] | rw [stepG_inBlock] | rw [stepG_region_end] | (rw [stepG_region]; simp only [List.size_toArray, List.length_cons, List.length_nil, Nat.reduceAdd, Nat.zero_add, List.range, List.range.loop])); simp only [goes_go]; refine ⟨d0_nil _ _, ?_⟩)))
  have hA2 : Kd.C (Kd.int .u64) (w.alloc (.chan 0 #[] false 0 0 false)) A ds.length ds := Kd.C_alloc hA _
  obtain ⟨wc, hwc⟩ : ∃ wc, wc = w.alloc (.chan 0 #[] false 0 0 false) := ⟨_, rfl⟩
  rw [← hwc] at hA2 HA
  refine gw_call chk4 rfl rfl (by decide) rfl rfl rfl (clone_blind wc ds) ?_ ?_
  · intro σ
    obtain ⟨d, rfl⟩ := HA
    simp only [List.map_toArray, List.map_cons, List.map_nil]
    exact clone_on A cp ds wc hA2 hl σ
  rintro v w₂ ⟨hR, hs⟩ ht
  have hb : Below wc.heap.size wc w₂ := hs.below (ht.trans (by obtain ⟨d, rfl⟩ := HA; rfl))
  clear HA hs ht
  have HA : AtRel w₂ w₂ := at_self w₂
  obtain ⟨A', cp', rfl⟩ := Kd.R_slice hR
  simp only [Act.put]
  repeat (first | (refine gw_step rfl (fun w₁ h₁ => ?_); replace HA := atRel_trans _ _ _ HA h₁; clear h₁; first | (refine goes_oper_k rfl rfl (by decide) (fun K hK => ?_); go_simp; refine hK _ _ ⟨d0_l (listed_nil (by simp [go_sem, *])), ?_⟩; clear hK K) | ((first | rw [stepG_seq] | rw [stepG_skip] | rw [stepG_block] | rw [stepG_loop] | rw [stepG_inLoop] | rw [stepG_inBlock] | rw [stepG_region_end] | (rw [stepG_region]; simp only [List.size_toArray, List.length_cons, List.length_nil, Nat.reduceAdd, Nat.zero_add, List.range, List.range.loop])); simp only [goes_go]; refine ⟨d0_nil _ _, ?_⟩)))
  refine .stop fun w₄ h₄ => ?_
  replace HA := atRel_trans _ _ _ HA h₄
  obtain ⟨d, rfl⟩ := HA
  have hz : wc.heap.size = w.heap.size + 1 := by rw [hwc]; exact Array.size_push _
  have hc : (w₂.at d).heap[w.heap.size]? = some (.chan 0 #[] false 0 0 false) := by
    refine (hb.block _ (by omega)).trans ?_
    rw [hwc]
    exact heap_alloc_new w _
  refine ⟨w.heap.size, ?_, Nat.le_refl _, ?_⟩
  · exact atGo_P h hh.1 hh.2 A A' ds.length cp cp' w.heap.size (fun i => if i = 4 then .slice none 0 0 else if i = 5 then .int .i64 0 else if i = 11 then .bool false else if i = 12 then .int .i64 h else if i = 13 then .bool true else if i = 14 then .bool false else if i = 15 then .bool false else if i = 16 then .slice A ds.length cp else if i = 17 then .int .i64 ds.length else if i = 18 then .bool false else if i = 19 then .chan (some w.heap.size) else if i = 20 then .slice A ds.length cp else undef) cs (w₂.at d) ds hc hl (Kd.R_reads' hR).2.2 (fun ad e => by
      subst e
      have h1 := Kd.R_lt hR ad.block rfl
      have h2 := Kd.R_base hR ad.block rfl
      exact ⟨h1, by omega⟩)
  · have h1 : Below w.heap.size w wc := by
      rw [hwc]
      exact below_alloc (Below.refl _ _) _
    exact below_at (h1.trans (hb.mono (by omega))) d
/-- ████ draw.Plan's COURSE. ████ -/
theorem plan_course (h : Int) (A : Option Addr) (cp : Nat) (ds : List Int) (cs : List Frame) (w : World) (hA : Kd.C (Kd.int .u64) w A ds.length ds) :
    Course Try.prog (AtLeave Try.prog 14 (PlanPost h ds w) cs) (G (Frame.enter Try.prog 14 #[.int .i64 h, .slice A ds.length cp] .normal) cs) w := by
  by_cases hh : 0 ≤ h ∧ h ≤ 63
  · by_cases hl : ds.length ≤ 2048
    · refine (Course.goes (plan_go w h hh A cp ds hl hA cs)).andThen fun g w₁ hS => ?_
      obtain ⟨c, hG, hc, hb⟩ := hS
      refine (Course.pipe hG).andThen fun g₂ w₂ hF => ?_
      refine Course.goes ((plan_end h A ds.length cp c w₁.heap.size w₁ (ds.length / 2) _ cs g₂ w₂ hF).mono fun g₃ w₃ hL => ?_)
      refine hL.mono fun v hv => ?_
      obtain ⟨v', M, rfl, hH⟩ := hv
      exact post_of_HR hh hl rfl hc hb hH
    · exact Course.goes (plan_long h hh A cp ds hl cs w)
  · exact Course.goes (plan_low h hh A ds.length cp ds cs w)
end Go.Proofs.Ytaeaacdjiijooaa.Co
