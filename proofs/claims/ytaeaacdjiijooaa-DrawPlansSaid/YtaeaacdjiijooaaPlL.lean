import Derived.Test.YtaeaacdjiijooaaPlS
import Derived.Test.YtaeaacdjiijooaaPlB
namespace Go.Proofs.Ytaeaacdjiijooaa.Co
open Go.Conc Go.RowKit Go.Proofs.Ytaeaacdjiijooaa.Lift Go.Proofs.YtaeaacdjiijooaaW.PrintWords Go.Proofs.YtaeaacdjiijooaaW.PrintLast Go.Proofs.YtaeaacdjiijooaaW.PrintMore
open Go.Proofs.Ytaeaacdjiijooaa.Dp (S29 k29)
set_option linter.unusedVariables false
set_option linter.unusedSimpArgs false
def LawPost (w : World) (v : Value) (w' : World) : Prop := v = .bool true ∧ Below w.heap.size w w'
set_option maxHeartbeats 4000000 in
set_option maxRecDepth 100000 in
/-- MORE DRAWS THAN THE LAW LOOKS AT. -/
theorem plans_long (a0 : Int) (A1 : Option Addr) (n1 c1 : Nat) (hn : 3000 < n1) (w : World) :
    GoesW Try.prog true AtRel D0 (AtLeave Try.prog 4 (LawPost w) []) (G (Frame.enter Try.prog 4 #[.int .i64 a0, .slice A1 n1 c1] .normal) []) w := by
  rw [enter_at _ Try.func4 (by rfl)]
  have hcmp : decide ((3000 : Int) < (n1 : Int)) = true := decide_eq_true (by omega)
  have hcmp' : decide (3000 < n1) = true := decide_eq_true (by omega)
  simp only [Try.f4, List.size_toArray, List.length_cons, List.length_nil, Nat.reduceAdd, Nat.reduceSub, Array.replicate_succ, Array.replicate_zero, List.push_toArray, List.append_toArray, List.nil_append, List.cons_append]
  have HA : AtRel w w := at_self w
  repeat (first | (refine gw_step rfl (fun w₁ h₁ => ?_); replace HA := atRel_trans _ _ _ HA h₁; clear h₁; first | (refine goes_oper_k rfl rfl (by decide) (fun K hK => ?_); go_simp; refine hK _ _ ⟨d0_l (listed_nil (by simp [go_sem, *])), ?_⟩; clear hK K) | ((first | rw [stepG_seq] | rw [stepG_skip] | rw [stepG_block] | rw [stepG_loop] | rw [stepG_inLoop] | rw [stepG_inBlock] | rw [stepG_region_end] | (rw [stepG_region]; simp only [List.size_toArray, List.length_cons, List.length_nil, Nat.reduceAdd, Nat.zero_add, List.range, List.range.loop])); simp only [goes_go]; refine ⟨d0_nil _ _, ?_⟩)))
  refine gw_step rfl (fun w₁ h₁ => ?_)
  replace HA := atRel_trans _ _ _ HA h₁
  clear h₁
  rw [stepG_cond (t := true) rfl]
  simp only [goes_go, if_true, if_false, Bool.false_eq_true, ↓reduceIte]
  refine ⟨d0_nil _ _, ?_⟩
  repeat (first | (refine gw_step rfl (fun w₁ h₁ => ?_); replace HA := atRel_trans _ _ _ HA h₁; clear h₁; first | (refine goes_oper_k rfl rfl (by decide) (fun K hK => ?_); go_simp; refine hK _ _ ⟨d0_l (listed_nil (by simp [go_sem, *])), ?_⟩; clear hK K) | ((first | rw [stepG_seq] | rw [stepG_skip] | rw [stepG_block] | rw [stepG_loop] | rw [stepG_inLoop] | rw [stepG_inBlock] | rw [stepG_region_end] | (rw [stepG_region]; simp only [List.size_toArray, List.length_cons, List.length_nil, Nat.reduceAdd, Nat.zero_add, List.range, List.range.loop])); simp only [goes_go]; refine ⟨d0_nil _ _, ?_⟩)))
  refine gw_step rfl (fun w₁ h₁ => ?_)
  replace HA := atRel_trans _ _ _ HA h₁
  clear h₁
  rw [stepG_ret']
  refine ⟨d0_nil _ _, ?_⟩
  refine .stop fun w₂ h₂ => ?_
  replace HA := atRel_trans _ _ _ HA h₂
  obtain ⟨d, rfl⟩ := HA
  exact atLeave_mk Try.func4 (results_tmp (by rfl) _ _ _) ⟨rfl, below_at (Below.refl _ _) d⟩
/-- The frame's items at the call of draw.Plan, and behind it. -/
noncomputable def opsL : Array Oper := match Try.f4.body with
  | some (.seq _ (.seq _ (.seq _ (.seq (.region _ ops _) _)))) => ops
  | _ => #[]
/-- The law's slots at the call of draw.Plan. -/
def TC (a0 : Int) (A1 : Option Addr) (n1 c1 : Nat) (Ao : Option Addr) (n co : Nat) (J : Nat → Value) : Array Value :=
  #[.int .i64 a0, .slice A1 n1 c1, J 2, J 3, .bool false, .slice Ao n co, J 6, J 7, J 8, J 9, J 10, J 11, J 12, J 13, J 14, J 15, J 16, J 17, .int .i64 a0, .slice Ao n co, J 20, J 21, J 22, J 23, J 24, J 25, J 26, J 27, J 28, J 29, J 30, J 31, J 32, J 33, J 34, J 35, J 36, J 37, J 38, J 39, J 40, J 41, J 42, J 43, J 44, J 45, J 46, J 47, J 48, J 49, J 50, J 51]
theorem reps_int (w : World) (base : Nat) (ok : Nat → Prop) : ∀ l : List Int, Reps ((Kd.int .u64).M w base ok) 1 l (l.map (.int .u64))
  | [] => Reps.none _ _
  | x :: l => by
    obtain ⟨h1, h2⟩ := reps_int w base ok l
    refine ⟨by simp, fun j y hy => ?_⟩
    cases j with
    | zero =>
      simp only [List.getElem?_cons_zero, Option.some.injEq] at hy
      subst hy
      rfl
    | succ j =>
      have hy' : l[j]? = some y := by simpa using hy
      have := h2 j y hy'
      rw [Nat.mul_one] at this ⊢
      exact this
/-- append([]uint64{}, draws...) -/
theorem append_l (A1 : Option Addr) (l1 : List Int) (c1 : Nat) (hn : l1.length ≤ 3000) (w wa : World) (hr1 : Kd.C (Kd.int .u64) w A1 l1.length l1) (hA : A1 = none → c1 = 0) (hb : Below w.heap.size w wa) (g : Nat) (hg : w.heap.size ≤ g)
    (hown : wa.ownsRow w.heap.size 22 1 (.slice (some ⟨g, 0, none⟩) 0 0) 0 []) :
    ∃ v' w', (Builtin.append_ #[35, 35] 35 #[.slice (some ⟨g, 0, none⟩) 0 0, .slice A1 l1.length c1]).run Try.prog wa = .ok v' w' ∧ Kd.R (Kd.int .u64) 22 w' w.heap.size (fun _ => True) v' l1 ∧ Below w.heap.size w w' := by
  obtain ⟨i0, hi, hz0, hz1, hz2⟩ := info_parts (P := Try.prog) (show (Try.prog.info? 22).map (fun i => (i.zero, i.size, i.bytes)) = some (some (.int .u64 0), 1, 8) by kernel_rfl)
  have hs := hb.size
  cases A1 with
  | none =>
    obtain rfl := hA rfl
    have hl : l1 = [] := by
      cases l1 with
      | nil => rfl
      | cons x xs =>
        obtain ⟨ad, e, _⟩ := hr1.2.2 (by simp)
        cases e
    subst hl
    exact ⟨_, wa, run_append_owned_none (P := Try.prog) (w := wa) w.heap.size 35 35 22 i0 1 Try.underlying35 hi _ 0 [] hown, ⟨fun _ _ => trivial, _, hown, Reps.none _ _⟩, hb⟩
  | some ad =>
    have hnews : ∀ j u, (l1.map (Value.int .u64))[j]? = some u → wa.cell? (ad.add j) = some u := by
      intro j u hj
      have hlt : j < l1.length := by
        have := (List.getElem?_eq_some_iff.1 hj).1
        simpa using this
      obtain ⟨ad', e, hx⟩ := Kd.at_int hr1 (j : Int) (by omega) (by omega)
      cases e
      have hx' := (hb.cell (World.block_lt_of_cell? w _ hx)).trans hx
      have e2 : (l1.map (Value.int .u64))[j]? = some (.int .u64 (rd l1 (j : Int))) := by
        rw [List.getElem?_map, List.getElem?_eq_getElem hlt]
        simp [rd, List.getD_eq_getElem?_getD, List.getElem?_eq_getElem hlt]
      rw [e2] at hj
      cases hj
      exact hx'
    have h1c : ∀ u ∈ l1.map (Value.int .u64), u.oneCell' = true := by
      intro u hu
      obtain ⟨x, _, rfl⟩ := List.mem_map.1 hu
      rfl
    obtain ⟨v', w', hrun, hown', hgr, _⟩ := run_append_own (P := Try.prog) (w := wa) w.heap.size 35 35 22 i0 _ 1 8 Try.underlying35 hi hz0 hz1 hz2 rfl (by decide) _ 0 [] hown ad l1.length c1 (l1.map (Value.int .u64)) (by simp) hnews h1c (by simp only [maxLen]; omega) (by omega) hs
    rw [Nat.zero_add, List.nil_append] at hown'
    exact ⟨v', w', hrun, ⟨fun _ _ => trivial, _, hown', reps_int _ _ _ _⟩, pw_below_grown hb _ hs hgr (fun k hk => by cases hk; exact hg)⟩
set_option maxHeartbeats 4000000 in
set_option maxRecDepth 100000 in
theorem plans_pre (a0 : Int) (A1 : Option Addr) (l1 : List Int) (c1 : Nat) (hn : l1.length ≤ 3000) (w : World) (hr1 : Kd.C (Kd.int .u64) w A1 l1.length l1) (hA1 : A1 = none → c1 = 0) :
    GoesW Try.prog true AtRel D0 (fun g w' => ∃ (Ao : Option Addr) (co : Nat) (J : Nat → Value), g = G ((base 4).at ⟨TC a0 A1 l1.length c1 Ao l1.length co J, []⟩ [.inRegion opsL [2, 3, 4, 5, 6, 7], .code Dp.restL]) [] ∧ Below w.heap.size w w' ∧ Kd.R (Kd.int .u64) 22 w' w.heap.size (fun _ => True) (.slice Ao l1.length co) l1)
      (G (Frame.enter Try.prog 4 #[.int .i64 a0, .slice A1 l1.length c1] .normal) []) w := by
  rw [enter_at _ Try.func4 (by rfl)]
  have hcmp : decide ((3000 : Int) < (l1.length : Int)) = false := decide_eq_false (by omega)
  have hcmp' : decide (3000 < l1.length) = false := decide_eq_false (by omega)
  simp only [Try.f4, List.size_toArray, List.length_cons, List.length_nil, Nat.reduceAdd, Nat.reduceSub, Array.replicate_succ, Array.replicate_zero, List.push_toArray, List.append_toArray, List.nil_append, List.cons_append]
  have HA : AtRel w w := at_self w
  repeat (first | (refine gw_step rfl (fun w₁ h₁ => ?_); replace HA := atRel_trans _ _ _ HA h₁; clear h₁; first | (refine goes_oper_k rfl rfl (by decide) (fun K hK => ?_); go_simp; refine hK _ _ ⟨d0_l (listed_nil (by simp [go_sem, *])), ?_⟩; clear hK K) | ((first | rw [stepG_seq] | rw [stepG_skip] | rw [stepG_block] | rw [stepG_loop] | rw [stepG_inLoop] | rw [stepG_inBlock] | rw [stepG_region_end] | (rw [stepG_region]; simp only [List.size_toArray, List.length_cons, List.length_nil, Nat.reduceAdd, Nat.zero_add, List.range, List.range.loop])); simp only [goes_go]; refine ⟨d0_nil _ _, ?_⟩)))
  refine gw_step rfl (fun w₁ h₁ => ?_)
  replace HA := atRel_trans _ _ _ HA h₁
  clear h₁
  rw [stepG_cond (t := false) rfl]
  simp only [goes_go, if_true, if_false, Bool.false_eq_true, ↓reduceIte]
  refine ⟨d0_nil _ _, ?_⟩
  repeat (first | (refine gw_step rfl (fun w₁ h₁ => ?_); replace HA := atRel_trans _ _ _ HA h₁; clear h₁; first | (refine goes_oper_k rfl rfl (by decide) (fun K hK => ?_); go_simp; refine hK _ _ ⟨d0_l (listed_nil (by simp [go_sem, *])), ?_⟩; clear hK K) | ((first | rw [stepG_seq] | rw [stepG_skip] | rw [stepG_block] | rw [stepG_loop] | rw [stepG_inLoop] | rw [stepG_inBlock] | rw [stepG_region_end] | (rw [stepG_region]; simp only [List.size_toArray, List.length_cons, List.length_nil, Nat.reduceAdd, Nat.zero_add, List.range, List.range.loop])); simp only [goes_go]; refine ⟨d0_nil _ _, ?_⟩)))
  obtain ⟨d, rfl⟩ := HA
  have ec : (w.at d).heap.size = w.heap.size := rfl
  have HA : AtRel (w.alloc (.cells #[] 22)) ((w.at d).alloc (.cells #[] 22)) := ⟨d, rfl⟩
  simp only [Act.put, ec]
  generalize (w.at d).alloc (.cells #[] 22) = w3 at HA ⊢
  clear ec
  repeat (first | (refine gw_step rfl (fun w₁ h₁ => ?_); replace HA := atRel_trans _ _ _ HA h₁; clear h₁; first | (refine goes_oper_k rfl rfl (by decide) (fun K hK => ?_); go_simp; refine hK _ _ ⟨d0_l (listed_nil (by simp [go_sem, *])), ?_⟩; clear hK K) | ((first | rw [stepG_seq] | rw [stepG_skip] | rw [stepG_block] | rw [stepG_loop] | rw [stepG_inLoop] | rw [stepG_inBlock] | rw [stepG_region_end] | (rw [stepG_region]; simp only [List.size_toArray, List.length_cons, List.length_nil, Nat.reduceAdd, Nat.zero_add, List.range, List.range.loop])); simp only [goes_go]; refine ⟨d0_nil _ _, ?_⟩)))
  refine gw_step rfl (fun w₁ h₁ => ?_)
  replace HA := atRel_trans _ _ _ HA h₁
  clear h₁
  obtain ⟨d, rfl⟩ := HA
  have hb0 : Below w.heap.size w (w.alloc (.cells #[] 22)) := below_alloc (Below.refl _ _) _
  obtain ⟨v', w', hrun, hR, hb⟩ := append_l A1 l1 c1 hn w ((w.alloc (.cells #[] 22)).at d) hr1 hA1 (below_at hb0 d) w.heap.size (Nat.le_refl _) (World.ownsRow_lit w #[] 0 (Nat.le_refl _) (by simp [maxLen]) rfl)
  refine goes_oper_k rfl rfl (by decide) (fun K hK => ?_)
  refine uponK_append (.tmp 14) (.tmp 15) 35 rfl rfl rfl hrun (hK _ _ ⟨ev_append (.tmp 14) (.tmp 15) 35 rfl, ?_⟩)
  clear hK K hrun
  obtain ⟨Ao, co, rfl⟩ := Kd.R_slice hR
  have HA : AtRel w' w' := at_self w'
  simp only [Act.put]
  repeat (first | (refine gw_step rfl (fun w₁ h₁ => ?_); replace HA := atRel_trans _ _ _ HA h₁; clear h₁; first | (refine goes_oper_k rfl rfl (by decide) (fun K hK => ?_); go_simp; refine hK _ _ ⟨d0_l (listed_nil (by simp [go_sem, *])), ?_⟩; clear hK K) | ((first | rw [stepG_seq] | rw [stepG_skip] | rw [stepG_block] | rw [stepG_loop] | rw [stepG_inLoop] | rw [stepG_inBlock] | rw [stepG_region_end] | (rw [stepG_region]; simp only [List.size_toArray, List.length_cons, List.length_nil, Nat.reduceAdd, Nat.zero_add, List.range, List.range.loop])); simp only [goes_go]; refine ⟨d0_nil _ _, ?_⟩)))
  refine .stop fun w₄ h₄ => ?_
  replace HA := atRel_trans _ _ _ HA h₄
  obtain ⟨d, rfl⟩ := HA
  exact ⟨Ao, co, fun i => if i = 11 then .slice A1 l1.length c1 else if i = 12 then .int .i64 l1.length else if i = 13 then .bool false else if i = 14 then .slice (some ⟨w.heap.size, 0, none⟩) 0 0 else if i = 15 then .slice A1 l1.length c1 else if i = 16 then .slice Ao l1.length co else undef, rfl, below_at hb d, hR⟩
/-- What the law says in plain words: the rest of it answers true. -/
def PlansPure : Prop := ∀ (a0 : Int) (l1 : List Int), l1.length ≤ 3000 → (∀ x ∈ l1, (Lit.int .u64 x).wf = true) → (Lit.int .i64 a0).wf = true →
  ∃ k, ((Dp.paymasterref22_Plan.f k a0 l1).bind fun bt134 => (Dp.paymasterlaw22_DrawPlans.l0 k l1 l1 (planR a0 l1).1 (planR a0 l1).2 bt134.1 bt134.2 0)) = some true
theorem law_blind (w : World) : Blind fun v w' => v = .bool true ∧ Bel w.heap.size w w' := fun v w' τ d h => ⟨h.1, h.2.os, h.2.output, h.2.size, h.2.block⟩
set_option maxHeartbeats 4000000 in
set_option maxRecDepth 100000 in
/-- ████ THE LAW's COURSE. ████ -/
theorem plans_course (hP : PlansPure) (a0 : Int) (A1 : Option Addr) (l1 : List Int) (c1 : Nat) (w : World) (hr1 : Kd.C (Kd.int .u64) w A1 l1.length l1) (hc1 : l1.length ≤ c1) (hA1 : A1 = none → c1 = 0) (hw1 : ∀ x ∈ l1, (Lit.int .u64 x).wf = true) (hw0 : (Lit.int .i64 a0).wf = true) :
    Course Try.prog (AtLeave Try.prog 4 (LawPost w) []) (G (Frame.enter Try.prog 4 #[.int .i64 a0, .slice A1 l1.length c1] .normal) []) w := by
  by_cases hn : l1.length ≤ 3000
  · obtain ⟨k, hk⟩ := hP a0 l1 hn hw1 hw0
    refine (Course.goes (plans_pre a0 A1 l1 c1 hn w hr1 hA1)).andThen fun g w₁ hS => ?_
    obtain ⟨Ao, co, J, rfl, hb, hR⟩ := hS
    refine Course.call (o := opsL[2]) (body := Try.f14.body.getD .skip) rfl rfl (by decide) rfl Try.func14 (by decide) rfl (vs := #[.int .i64 a0, .slice Ao l1.length co]) ?_ (plan_course a0 Ao co l1 _ w₁ (Kd.R_reads' hR).2.2) ?_
    · simp [Act.eval, TC]
    rintro v w₂ ⟨v, rfl, hS, hb₂⟩
    have hbb : Below w.heap.size w w₂ := hb.trans (hb₂.mono hb.size)
    have hR₂ : Kd.R (Kd.int .u64) 22 w₂ w.heap.size (fun _ => True) (.slice Ao l1.length co) l1 := Kd.R_below hR hb₂
    have hS₂ := Kd.R_lower hS hb.size
    refine Course.goes ?_
    have HA : AtRel w₂ w₂ := at_self w₂
    simp only [opsL, Try.f4, TC, Act.put]
    repeat (first | (refine gw_step rfl (fun w₁ h₁ => ?_); replace HA := atRel_trans _ _ _ HA h₁; clear h₁; first | (refine goes_oper_k rfl rfl (by decide) (fun K hK => ?_); go_simp; refine hK _ _ ⟨d0_l (listed_nil (by simp [go_sem, *])), ?_⟩; clear hK K) | ((first | rw [stepG_seq] | rw [stepG_skip] | rw [stepG_block] | rw [stepG_loop] | rw [stepG_inLoop] | rw [stepG_inBlock] | rw [stepG_region_end] | (rw [stepG_region]; simp only [List.size_toArray, List.length_cons, List.length_nil, Nat.reduceAdd, Nat.zero_add, List.range, List.range.loop])); simp only [goes_go]; refine ⟨d0_nil _ _, ?_⟩)))
    obtain ⟨d, rfl⟩ := HA
    have hrest := gw_rest chk4 Try.func4 rfl rfl (c := Dp.restL) (by kernel_rfl) (T := Dp.TL a0 A1 l1.length c1 Ao l1.length co v (planR a0 l1).2 (fun i => if i = 17 then .tuple #[v, .int .i64 (planR a0 l1).2] else if i = 18 then .int .i64 a0 else if i = 19 then .slice Ao l1.length co else if i = 20 then .tuple #[v, .int .i64 (planR a0 l1).2] else if i = 21 then v else if i = 22 then .int .i64 (planR a0 l1).2 else J i)) (law_blind w) (w := w₂.at d) (fun σ => ?_) []
    · exact hrest.mono fun g w₃ hL => hL.mono fun v' hv => ⟨hv.1.1, hv.1.2.below (hv.2.trans hbb.tape)⟩
    · refine wp_mono (Dp.plans_rest k a0 A1 c1 l1 l1 (planR a0 l1).1 (planR a0 l1).2 true (w.on σ 0) (w₂.on σ 0) hr1 hc1 ⟨hbb.os, rfl, hbb.output, hbb.size, hbb.block⟩ Ao co v hR₂ hS₂ _ hk) fun e a w₄ hq => ?_
      cases e with
      | normal => obtain ⟨h1, v, h2, h3, h4⟩ := hq; exact ⟨h1, v, h2, v, rfl, by injection h3, bel_on h4⟩
      | ret => obtain ⟨h1, v, h2, h3, h4⟩ := hq; exact ⟨h1, v, h2, v, rfl, by injection h3, bel_on h4⟩
      | panic chain => obtain ⟨_, h3, _⟩ := hq; cases h3
      | exit id => exact hq.elim
      | goto l => exact hq.elim
      | outgrown => obtain ⟨h3, _⟩ := hq; cases h3
  · exact Course.goes (plans_long a0 A1 l1.length c1 (by omega) w)
end Go.Proofs.Ytaeaacdjiijooaa.Co
