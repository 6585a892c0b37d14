import Derived.Test.YtaeaacdjiijooaaCoA
import Derived.Test.YtaeaacdjiijooaaLiftP
namespace Go.Proofs.Ytaeaacdjiijooaa.Co
open Go.Conc Go.RowKit Go.Proofs.YtaeaacdjiijooaaW.PrintWords Go.Proofs.YtaeaacdjiijooaaW.PrintLast Go.Proofs.YtaeaacdjiijooaaW.PrintMore
set_option linter.unusedVariables false
set_option linter.unusedSimpArgs false
/-- The loop's body in draw.Plan; its first region (the receive); what stands behind it. -/
noncomputable def loopX : Code := match Try.f14.body with
  | some (.seq _ (.seq _ (.seq _ (.seq _ (.seq _ (.seq (.seq _ (.block _ (.loop x))) _)))))) => x
  | _ => .skip
noncomputable def opsR : Array Oper := match loopX with | .seq (.region _ ops _) _ => ops | _ => #[]
noncomputable def restR : Code := match loopX with | .seq _ y => y | _ => .skip
theorem loopX_eq : loopX = .seq (.region 9 opsR false) restR := rfl
/-- The slots of draw.Plan in its loop. -/
def TP (h : Int) (A : Option Addr) (l cp c : Nat) (v : Value) (J : Nat → Value) : Array Value :=
  #[.int .i64 h, .slice A l cp, J 2, J 3, J 4, J 5, .chan (some c), v, J 8, J 9, J 10, J 11, J 12, J 13, J 14, J 15, J 16, J 17, J 18, J 19, J 20, J 21, J 22, .chan (some c), J 24, J 25, J 26, J 27, J 28, J 29, J 30, J 31, J 32, J 33, J 34, J 35, J 36, J 37, J 38, J 39, J 40]
/-- Behind a round. -/
def EndR (c B : Nat) (w0 : World) (h : Int) (A : Option Addr) (l cp n : Nat) (xs : List Value) (x y : Int) : Exit → Act → World → Prop
  | .normal, a, w => ∃ (M : Nat) (v : Value) (J : Nat → Value), a = { tmps := TP h A l cp c v J, defers := [] } ∧ HR c B M w0 v (n + 1) (xs ++ [.int .u64 (loV h x y), .int .u64 (hiV h x y)]) w
  | _, _, _ => False
theorem endR_mk {c B : Nat} {w0 : World} {h : Int} {A : Option Addr} {l cp n : Nat} {xs : List Value} {x y : Int} {w : World} {M : Nat} {v : Value} (T : Array Value) (hT : T = TP h A l cp c v (fun i => T.getD i undef)) (hF : HR c B M w0 v (n + 1) (xs ++ [.int .u64 (loV h x y), .int .u64 (hiV h x y)]) w) : EndR c B w0 h A l cp n xs x y .normal { tmps := T, defers := [] } w :=
  ⟨M, v, fun i => T.getD i undef, by rw [← hT], hF⟩
attribute [local go_sem] max2_int min2_int max_two min_two
set_option maxHeartbeats 4000000 in
set_option maxRecDepth 100000 in
theorem round_c (c B : Nat) : ∃ n n2, ∀ (M : Nat) (w0 : World) (v : Value) (m : Nat) (xs : List Value) (h : Int) (h0 : 0 ≤ h) (h1 : h ≤ 63) (A : Option Addr) (l cp : Nat) (J : Nat → Value) (x y : Int) (hm : m < 2000) (w : World), HR c B M w0 v m xs w →
    OpsC Try.prog true (Go.Conc.Aside c) (DR B) 14 opsR [1] n (Exit.then (fun a' w' => restR.wpC Try.prog true (Go.Conc.Aside c) (DR B) 14 n2 (EndR c B w0 h A l cp m xs x y) a' w') (EndR c B w0 h A l cp m xs x y))
      { tmps := TP h A l cp c v (fun i => if i = 24 then .tuple #[.agg #[.int .u64 x, .int .u64 y], .bool true] else J i), defers := [] } w := by
  have hu29 := Try.underlying29
  have hu64 := Try.underlying64
  have hu36 := Try.underlying36
  obtain ⟨i0, hi, hz0, hz1, hz2⟩ := info_parts (P := Try.prog) (show (Try.prog.info? 29).map (fun i => (i.zero, i.size, i.bytes)) = some (some (.agg #[.int .u64 0, .int .u64 0]), 2, 16) by kernel_rfl)
  have T := termsR B c
  obtain ⟨kp, hp⟩ := pair_c (main := true) c B
  co_apply Exists.intro
  co_apply Exists.intro
  intro M w0 v m xs h h0 h1 A l cp J x y hm w hF
  unfold opsR restR loopX TP
  simp only [Try.f14, if_true, if_false, reduceIte, Nat.reduceEqDiff]
  co_op HR.rely hF (co_quiet T)
  co_apply opsC_nil T
  co_then
  co_apply wpC_seq T
  co_apply wpC_cond T (t := true)
  · rfl
  simp only [if_true]
  co_apply wpC_skip T
  co_then
  co_apply wpC_block T
  co_apply wpC_seq T
  co_reg T
  co_op HR.rely hF (co_quiet T)
  co_opw HR.rely hF (skip) (refine ⟨fun b hb => Below.heap_alloc _ _ _ (by have := hF.sz; have := hF.BM; omega), ?_⟩; co_evs (skip))
  have hB := hF.made #[.int .u64 0, .int .u64 0] 64
  clear hF
  co_opw HB.rely hB (have hc0 : _ = some (Value.int .u64 0) := (blk_cell hB.blk 0).trans rfl; have hc1 : _ = some (Value.int .u64 0) := (blk_cell hB.blk 1).trans rfl; have hz0 := blk_frozen hB.blk 0; have hz1 := blk_frozen hB.blk 1) (refine ⟨hB.below2 0 1 _ _, fun e he => ?_⟩; have hm := mem_listed he; simp [go_sem, *] at hm; rcases hm with rfl | rfl <;> exact evR_cell _ _ _ fun _ => hB.ge)
  replace hB := (hB.set 0 (.int .u64 x)).set 1 (.int .u64 y)
  clear hc0 hc1 hz0 hz1
  co_apply opsC_nil T
  co_then
  co_apply wpC_seq T
  co_reg T
  co_op HB.rely hB (co_quiet T)
  co_opw HB.rely hB (skip) (rw [listed_nil (by simp [go_sem, events_indexAt_array 64 22 2 _ _ _ hu64])]; exact Terms.idle T _)
  co_opw HB.rely hB (have hc0 : _ = some (Value.int .u64 x) := (blk_cell hB.blk 0).trans rfl) (refine ⟨fun _ _ => rfl, fun e he => ?_⟩; have hm := mem_listed he; simp [go_sem, *] at hm; subst hm; exact evR_cell _ _ _ fun h => (by cases h))
  clear hc0
  co_opw HB.rely hB (skip) (rw [listed_nil (by simp [go_sem, events_indexAt_array 64 22 2 _ _ _ hu64])]; exact Terms.idle T _)
  co_opw HB.rely hB (have hc0 : _ = some (Value.int .u64 y) := (blk_cell hB.blk 1).trans rfl) (refine ⟨fun _ _ => rfl, fun e he => ?_⟩; have hm := mem_listed he; simp [go_sem, *] at hm; subst hm; exact evR_cell _ _ _ fun h => (by cases h))
  clear hc0
  have hF := hB.hr
  clear hB
  co_apply opsC_callW T rfl (by rfl) rfl
  · walk_nrm
    exact hp M w0 v m xs h h0 h1 x y _ hF
  rintro r w' ⟨rfl, hF'⟩
  clear hF
  walk_nrm
  co_op HR.rely hF' (co_quiet T)
  co_op HR.rely hF' (co_quiet T)
  co_op HR.rely hF' (co_quiet T)
  co_opw HR.rely hF' (skip) (refine ⟨fun b hb => Below.heap_alloc _ _ _ (by have := hF'.sz; have := hF'.BM; omega), ?_⟩; co_evs (skip))
  have hB := hF'.made #[.int .u64 0, .int .u64 0] 29
  clear hF'
  co_opw HB.rely hB (have hc0 : _ = some (Value.int .u64 0) := (blk_cell hB.blk 0).trans rfl; have hc1 : _ = some (Value.int .u64 0) := (blk_cell hB.blk 1).trans rfl; have hz0 := blk_frozen hB.blk 0; have hz1 := blk_frozen hB.blk 1) (refine ⟨hB.below2 0 1 _ _, fun e he => ?_⟩; have hm := mem_listed he; simp [go_sem, *] at hm; rcases hm with rfl | rfl <;> exact evR_cell _ _ _ fun _ => hB.ge)
  replace hB := (hB.set 0 (.int .u64 (loV h x y))).set 1 (.int .u64 (hiV h x y))
  clear hc0 hc1 hz0 hz1
  co_op HB.rely hB (co_quiet T)
  co_apply opsC_nil T
  co_then
  co_reg T
  co_op HB.rely hB (co_quiet T)
  co_opw HB.rely hB (have hc0 : _ = some (Value.int .u64 (loV h x y)) := (blk_cell hB.blk 0).trans rfl; have hc1 : _ = some (Value.int .u64 (hiV h x y)) := (blk_cell hB.blk 1).trans rfl) (refine ⟨fun _ _ => rfl, fun e he => ?_⟩; have hm := mem_listed he; simp [go_sem, *] at hm; rcases hm with rfl | rfl <;> exact evR_cell _ _ _ fun h => (by cases h))
  clear hc0 hc1
  have hF := hB.hr
  clear hB
  co_opw HR.rely hF (skip) (refine ⟨fun b hb => Below.heap_alloc _ _ _ (by have := hF.sz; have := hF.BM; omega), ?_⟩; co_evs (skip))
  have hB := hF.made #[.int .u64 (loV h x y), .int .u64 (hiV h x y)] 29
  clear hF
  rename_i wN
  -- append
  co_apply opsC_cons_k rfl (by rfl)
  intro w₂ hR K hK
  replace hB := hB.rely hR
  clear hR
  have hNN := hB.ge
  have hc0 : w₂.cell? ⟨wN.heap.size, 0, none⟩ = some (Value.int .u64 (loV h x y)) := (blk_cell hB.blk 0).trans rfl
  have hc1 : w₂.cell? ⟨wN.heap.size, 1, none⟩ = some (Value.int .u64 (hiV h x y)) := (blk_cell hB.blk 1).trans rfl
  have hnews : ∀ j u, [Value.int .u64 (loV h x y), Value.int .u64 (hiV h x y)][j]? = some u → w₂.cell? (Addr.add ⟨wN.heap.size, 0, none⟩ j) = some u := by
    intro j u hj
    match j, hj with
    | 0, hj => simp at hj; subst hj; exact hc0
    | 1, hj => simp at hj; subst hj; exact hc1
    | j + 2, hj => simp at hj
  have h1c : ∀ u ∈ [Value.int .u64 (loV h x y), Value.int .u64 (hiV h x y)], u.oneCell' = true := by
    intro u hu
    simp at hu
    rcases hu with rfl | rfl <;> rfl
  have hsz : B ≤ w₂.heap.size := Nat.le_trans hB.hr.BM hB.hr.sz
  have hml : m + 1 ≤ maxLen := by simp only [maxLen]; omega
  have hev := events_append_where (P := Try.prog) w₂ B 36 36 29 i0 _ 2 16 hu36 hi hz0 hz1 hz2 v m xs hB.hr.own ⟨wN.heap.size, 0, none⟩ 1 1 _ rfl hnews h1c hml (by omega)
  obtain ⟨v', w', hrun, hown', hgr, _⟩ := run_append_own (P := Try.prog) (w := w₂) B 36 36 29 i0 _ 2 16 hu36 hi hz0 hz1 hz2 rfl (by decide) v m xs hB.hr.own ⟨wN.heap.size, 0, none⟩ 1 1 _ rfl hnews h1c hml (by omega) hsz
  have hown := ownBlock_ge hB.hr.own
  refine uponK_append (.tmp 36) (.tmp 38) 36 rfl rfl rfl hrun (hK _ _ ⟨⟨fun b hb => hgr.block b (by omega) (fun e => by have := hown b e.symm; omega), fun e he => ?_⟩, ?_⟩)
  · have he' := mem_listed he
    rw [events_append_op (.tmp 36) (.tmp 38) 36 rfl rfl rfl] at he'
    rcases hev e he' with ⟨ad, hl, hc⟩ | ⟨mk, rfl, hmk⟩
    · refine ⟨fun m' hm' => (by rw [hl] at hm'; cases hm'), fun hw => ⟨ad, hl, ?_⟩⟩
      rcases hc with ⟨hw', _⟩ | hc
      · rw [hw'] at hw; cases hw
      · exact hown _ hc.symm
    · exact ⟨fun m' hm' => (by cases hm'; exact hmk), fun hw => (by cases hw)⟩
  have hF : HR c B w'.heap.size w0 v' (m + 1) (xs ++ [Value.int .u64 (loV h x y), Value.int .u64 (hiV h x y)]) w' := by
    refine ⟨hB.hr.cB, by have := hgr.size; omega, Nat.le_refl _, fun b hb hc => ?_, hgr.os.trans hB.hr.os, hgr.tape.trans hB.hr.tape, hgr.output.trans hB.hr.output, hown', fun g hg => ?_⟩
    · exact (hgr.block b (by omega) (fun e => by have := hown b e.symm; omega)).trans (hB.hr.old b hb hc)
    · rcases hown'.2 with ⟨rfl, _⟩ | ⟨g', cap, cur, rfl, _, hg', _⟩
      · cases hg
      · injection hg with e
        subst e
        exact blk_lt hg'
  clear hK hB hev hgr hrun hc0 hc1 hnews
  walk_nrm
  co_op HR.rely hF (co_quiet T)
  co_apply opsC_nil T
  co_then
  exact endR_mk _ rfl hF
/-- The guarantee that the pipeline asks. -/
def SB (c B : Nat) (w0 w : World) : Prop := ∀ b, b < B → b ≠ c → w.heap[b]? = w0.heap[b]?
theorem da_of_dr {c B : Nat} (hc : c < B) (w0 : World) {w w' : World} {es : Array Event} (h : DR B w w' es) : DA c (SB c B w0) (Go.Proofs.Ytaeaacdjiijooaa.Lift.Own (Stl B c)) w w' es := by
  refine ⟨fun hS b hb hne => (h.1 b hb).trans (hS b hb hne), h.1 c hc, fun e he => ⟨(h.2 e he).1, fun hw => ?_⟩⟩
  obtain ⟨a, hl, hB⟩ := (h.2 e he).2 hw
  rintro (⟨a', h', hlt⟩ | h')
  · rw [hl] at h'; cases h'; omega
  · rw [hl] at h'; cases h'
theorem goes_weaken {P : Program} {main : Bool} {R : World → World → Prop} {D D' : World → World → Array Event → Prop} {Stop : Goroutine → World → Prop} (hD : ∀ w w' es, D w w' es → D' w w' es) :
    ∀ {n : Nat} {g : Goroutine} {w : World}, Goes P main R D Stop n g w → Goes P main R D' Stop n g w := by
  intro n
  induction n with
  | zero => exact fun h => h
  | succ n ih =>
    intro g w h
    rcases h with h | ⟨hs, h⟩
    · exact .inl h
    · refine .inr ⟨hs, fun w₁ h₁ => ?_⟩
      have := h w₁ h₁
      revert this
      cases stepG P main g w₁ <;> simp only [GStep.goes, imp_self]
      exact fun ⟨d, x⟩ => ⟨hD _ _ _ d, ih x⟩
end Go.Proofs.Ytaeaacdjiijooaa.Co
