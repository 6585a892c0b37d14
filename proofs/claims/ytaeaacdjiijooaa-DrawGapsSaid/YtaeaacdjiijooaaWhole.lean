/- The contract of draw.whole, in the print's form. -/
import Derived.Test.YtaeaacdjiijooaaSpans
import Derived.WalkMore
namespace Go.Proofs.Ytaeaacdjiijooaa.Pr
open Go.RowKit Go.Proofs.YtaeaacdjiijooaaW.PrintWords Go.Proofs.YtaeaacdjiijooaaW.PrintLast Go.Proofs.YtaeaacdjiijooaaW.PrintMore
attribute [local go_sem] max2_int min2_int max_two min_two max_three min_three max_four min_four
set_option linter.unusedVariables false
set_option linter.unusedSimpArgs false

/-! ### draw_merge: function 37 -/
def draw_merge.l0 : Nat → List (S29) → List (S29) → Int → Int → Option ((List (S29)) × Int)
  | 0, _, _, _, _ => none
  | k + 1, x7, x27, x28, x29 => if x29 < x28 then (if 0 ≤ x29 then (if x29 < (x27.length : Int) then (if (wrap64 ((x7.length : Int) - 1)) ≥ 0 then (if 0 ≤ (wrap64 ((x7.length : Int) - 1)) then (if (wrap64 ((x7.length : Int) - 1)) < (x7.length : Int) then (if ((rd_T29 x27 x29).f0) ≤ ((rd_T29 x7 (wrap64 ((x7.length : Int) - 1))).f1) then (draw_merge.l0 k (x7.set ((wrap64 ((x7.length : Int) - 1)) : Int).toNat (⟨(rd_T29 x7 (wrap64 ((x7.length : Int) - 1))).f0, mx ((rd_T29 x7 (wrap64 ((x7.length : Int) - 1))).f1) ((rd_T29 x27 x29).f1)⟩ : S29)) x27 x28 (wrap64 (x29 + 1))) else (if x7.length < 8796093022208 then (draw_merge.l0 k (x7 ++ [(⟨(rd_T29 x27 x29).f0, (rd_T29 x27 x29).f1⟩ : S29)]) x27 x28 (wrap64 (x29 + 1))) else (none))) else (none)) else (none)) else (if x7.length < 8796093022208 then (draw_merge.l0 k (x7 ++ [(⟨(rd_T29 x27 x29).f0, (rd_T29 x27 x29).f1⟩ : S29)]) x27 x28 (wrap64 (x29 + 1))) else (none))) else (none)) else (none)) else (some (x7, 0))
theorem draw_merge.mono_l : ∀ k, (∀ y0 y1 y2 y3, LeO (draw_merge.l0 k y0 y1 y2 y3) (draw_merge.l0 (k + 1) y0 y1 y2 y3))
  | 0 => fun _ _ _ _ r h => by simp [draw_merge.l0] at h
  | k + 1 => by
    have ih0 := draw_merge.mono_l k
    · intro y0 y1 y2 y3
      unfold draw_merge.l0
      repeat' first
      | (with_reducible exact ih0 _ _ _ _)
      | (with_reducible exact LeO.refl _)
      | (with_reducible exact LeO.none _)
      | (with_reducible refine LeO.ite ?_ ?_)
      | (with_reducible refine LeO.bind ?_ (fun _ => ?_))
      | exact ih0 _ _ _ _
      | exact LeO.none _
      | refine LeO.ite ?_ ?_
      | refine LeO.bind ?_ (fun _ => ?_)
def draw_merge.T14 : Bool × List (List Nat × List Nat) := (true, [([], []), ([0], [0]), ([1], [1]), ([2], [2]), ([3, 2], [2, 3]), ([2], [2]), ([2], [2]), ([5, 6, 2], [2, 5, 6]), ([7, 2], [2, 7]), ([8, 2], [2, 8]), ([4, 9, 2], [2, 4, 9]), ([2, 10], [2, 10])])
def draw_merge.B14 : List Nat := [0, 1, 3, 7, 15, 7, 7, 103, 231, 487, 1023, 2047]
theorem draw_merge.tab14 : rtab .any (opsOf Try.f37 14) = draw_merge.T14 := by kernel_rfl
theorem draw_merge.bits14 : waitsOk draw_merge.T14.2 draw_merge.B14 = true := by kernel_rfl
def draw_merge.T15 : Bool × List (List Nat × List Nat) := (true, [([], []), ([], []), ([], []), ([], []), ([2, 3], [2, 3]), ([4], [4]), ([5], [5]), ([], []), ([7], [7]), ([6, 8], [6, 8]), ([0, 1, 0, 1, 2, 3, 4, 5, 6, 7, 8, 9], [0, 1]), ([10, 0, 1, 2, 3, 4, 5, 6, 7, 8, 9], [10]), ([11, 9, 0, 1, 2, 3, 4, 5, 6, 7, 8, 9], [9, 11])])
def draw_merge.B15 : List Nat := [0, 0, 0, 0, 12, 28, 60, 0, 128, 508, 1023, 2047, 4095]
theorem draw_merge.tab15 : rtab .any (opsOf Try.f37 15) = draw_merge.T15 := by kernel_rfl
theorem draw_merge.bits15 : waitsOk draw_merge.T15.2 draw_merge.B15 = true := by kernel_rfl
def draw_whole.f (k : Nat) (a0 : Int) (l1 : List S29) : Option (List S29 × Int) :=
  if 0 ≤ a0 ∧ a0 ≤ 63 then (if l1.length ≤ 2048 then (if (l1.any fun x => !mayB a0 x) = true then some ([], 200) else draw_merge.l0 k [] (spSort l1) ((spSort l1).length : Int) 0) else some ([], 3)) else some ([], 120)
theorem draw_whole.mono : ∀ a0 a1 k, LeO (draw_whole.f k a0 a1) (draw_whole.f (k + 1) a0 a1) := by
  intro a0 a1 k
  unfold draw_whole.f
  refine LeO.ite (LeO.ite (LeO.ite (LeO.refl _) (draw_merge.mono_l k _ _ _ _)) (LeO.refl _)) (LeO.refl _)
set_option maxHeartbeats 16000000 in
set_option maxRecDepth 100000 in
theorem draw_whole.calls (k : Nat) (a0 : Int) (A1 : Option Addr) (c1 : Nat) (l1 : List (S29)) (r1 : List (S29)) (r2 : Int) (w : World) (hr1 : Kd.C k29 w A1 l1.length l1) (hc1 : l1.length ≤ c1) (h : draw_whole.f k a0 l1 = some (r1, r2)) :
    Calls Try.prog 37 #[.int .i64 a0, .slice A1 l1.length c1] w fun e w' => ∃ v0_ : Value, e = .returned (.tuple #[v0_, .int .i64 r2]) ∧ Kd.R k29 29 w' w.heap.size (fun _ => True) v0_ r1 ∧ Below w.heap.size w w' := by
  have hu29 := Try.underlying29
  have hhigh : ∀ r, draw_high.f a0 = some r → ∀ W, W = w.alloc (.cells #[.int .i64 a0] 3) → Calls Try.prog 27 #[.int .i64 a0] W fun e w' => e = .returned (.bool r) ∧ Aside0 (Kd.C k29 w' A1 l1.length l1) ∧ Aside0 (w'.cell? ⟨w.heap.size, 0, none⟩ = some (.int .i64 a0)) ∧ Aside0 (Below w.heap.size w w') ∧ Aside0 (w.heap.size < w'.heap.size) := fun r hr W hW => (draw_high.calls a0 r W hr).mono fun e w' ⟨he, ⟨nd, hd⟩⟩ => by
    subst hd hW
    refine ⟨he, ⟨Kd.C_drewN (Kd.C_alloc hr1 _) nd⟩, ⟨?_⟩, ⟨pw_below_drewN (below_alloc (Below.refl _ _) _) nd⟩, ⟨?_⟩⟩
    · show (w.alloc (.cells #[.int .i64 a0] 3)).cell? ⟨w.heap.size, 0, none⟩ = _
      simp
    · show w.heap.size < (w.alloc (.cells #[.int .i64 a0] 3)).heap.size
      simp
  by_cases ch : 0 ≤ a0 ∧ a0 ≤ 63
  · have hh : draw_high.f a0 = some true := by unfold draw_high.f; rw [if_pos ch.1]; simp [ch.2]
    have hhi := hhigh true hh
    clear hhigh
    by_cases cl : l1.length ≤ 2048
    · have cd : decide ((2048 : Int) < (l1.length : Int)) = false := decide_eq_false (by omega)
      have hcont : ∀ W, Aside0 (Kd.C k29 W A1 l1.length l1) → Aside0 (W.cell? ⟨w.heap.size, 0, none⟩ = some (.int .i64 a0)) → Aside0 (Below w.heap.size w W) → Aside0 (w.heap.size < W.heap.size) →
          Calls Try.prog 42 #[.slice A1 l1.length c1, .func (.func 43) #[] #[.pointer (some ⟨w.heap.size, 0, none⟩)]] W fun e w' => e = .returned (.bool (l1.any fun x => !mayB a0 x)) ∧ Aside0 (Kd.C k29 w' A1 l1.length l1) ∧ Aside0 (Below w.heap.size w w') := fun W h1 h2 h3 h4 =>
        (contains_calls a0 ch A1 c1 l1 w.heap.size W h1.out cl h4.out h2.out).mono fun e w' ⟨he, hb⟩ => ⟨he, ⟨Kd.C_below h1.out hb⟩, ⟨h3.out.trans (hb.mono (Nat.le_of_lt h4.out))⟩⟩
      by_cases cb : (l1.any fun x => !mayB a0 x) = true
      · rw [draw_whole.f, if_pos ch, if_pos cl, if_pos cb] at h
        simp only [Option.some.injEq, Prod.mk.injEq] at h
        obtain ⟨rfl, rfl⟩ := h
        rw [cb] at hcont
        clear hr1
        go_enter Try.func37, Try.ntmps37
        go_wp2
        go_step3
        go_wp2_with (first | (go_at_call 27; (with_reducible refine (hhi _ rfl).mono ?_); rintro e w1 ⟨rfl, HR1, HX1, HB1, HS1⟩) | (go_at_call 42; (with_reducible refine (hcont _ HR1 HX1 HB1 HS1).mono ?_); rintro e w2 ⟨rfl, HR2, HB2⟩))
        (try rw [Exit.noGoto_ret])
        go_ret2
        exact ⟨_, rfl, Kd.R_nil _ _ _ _ _, HB2.out⟩
      · have cb0 : (l1.any fun x => !mayB a0 x) = false := by simpa using cb
        rw [draw_whole.f, if_pos ch, if_pos cl, if_neg cb] at h
        rw [cb0] at hcont
        obtain ⟨hs1, _, _⟩ := spSort_sorts l1
        have hclone : ∀ W, Aside0 (Kd.C k29 W A1 l1.length l1) → Aside0 (Below w.heap.size w W) →
            Calls Try.prog 44 #[.slice A1 l1.length c1] W fun e w' => ∃ X cap, e = .returned (.slice X (spSort l1).length cap) ∧ Aside0 (Row w.heap.size w' X cap l1) ∧ Aside0 (Below w.heap.size w w') := fun W h1 h2 =>
          (clone_calls A1 c1 l1 W h1.out cl).mono fun e w' ⟨X, cap, he, hr, hb⟩ => ⟨X, cap, by rw [hs1]; exact he, ⟨⟨hr.1, hr.2.imp id fun ⟨g, e1, e2, e3, e4⟩ => ⟨g, e1, Nat.le_trans h2.out.size e2, e3, e4⟩⟩⟩, ⟨h2.out.trans (hb.mono h2.out.size)⟩⟩
        have hsort : ∀ W X cap, Aside0 (Row w.heap.size W X cap l1) → Aside0 (Below w.heap.size w W) →
            Calls Try.prog 45 #[.slice X (spSort l1).length cap, .func (.func 46) #[] #[]] W fun e w' => e = .returned (.tuple #[]) ∧ Aside0 (Kd.C k29 w' X (spSort l1).length (spSort l1)) ∧ Aside0 ((spSort l1).length ≤ cap) ∧ Aside0 (Below w.heap.size w w') := fun W X cap h1 h2 => by
          have := sort_calls X cap l1 w.heap.size W h1.out cl h2.out.size
          rw [← hs1] at this
          exact this.mono fun e w' ⟨he, hr, hb⟩ => ⟨he, ⟨hr⟩, ⟨by rw [hs1]; exact h1.out.1⟩, ⟨h2.out.trans hb⟩⟩
        generalize spSort l1 = l2 at h hclone hsort
        clear hr1
        clear cb cb0 hs1 hh
        have H' := Aside0.mk h
        clear h
        go_enter Try.func37, Try.ntmps37
        go_wp2
        go_step3
        go_wp2_with (first | (go_at_call 27; (with_reducible refine (hhi _ rfl).mono ?_); rintro e w1 ⟨rfl, HR1, HX1, HB1, HS1⟩) | (go_at_call 42; (with_reducible refine (hcont _ HR1 HX1 HB1 HS1).mono ?_); rintro e w2 ⟨rfl, HR2, HB2⟩) | (go_at_call 44; (with_reducible refine (hclone _ HR2 HB2).mono ?_); rintro e w3 ⟨X, cap, rfl, HW3, HB3⟩) | (go_at_call 45; (with_reducible refine (hsort _ _ _ HW3 HB3).mono ?_); rintro e w4 ⟨rfl, HR1, HC1, HB4⟩))
        go_step3
        go_wp2
        have HB := Aside0.mk (Below.refl w4.heap.size w4)
        clear hhi hcont hclone hsort HW3 HB3 HR2 HB2 HX1 HB1 HS1
        go_loopg [7, 29] k (fun kq v7 v29 w' => ∃ (x7_1 : List (S29)) (x29_1 : Int), v29 = .int .i64 x29_1 ∧ Aside0 (draw_merge.l0 kq x7_1 l2 (l2.length : Int) x29_1 = some (r1, r2)) ∧ Aside0 (kq ≤ k) ∧ Aside0 (Kd.R k29 29 w' w4.heap.size (fun _ => True) v7 x7_1) ∧ Aside0 (Below w4.heap.size w4 w'))
        case atStart => exact ⟨(([] : List (S29))), (0), (by first | rfl | (simp; done) | (simp [*]; done)), H', ⟨Nat.le_refl _⟩, ⟨by first | exact Kd.R_nil _ _ _ _ _ | exact Kd.N_nil _ _ _ _ _ | exact Kd.V_nil _ _ _ _ _ | exact Kd.Q_nil _ _ _ _ _ | exact Kd.S_nil _ _ _ _ _⟩, ⟨by repeat (first | (with_reducible first | exact HB.out | apply below_alloc | apply pw_below_drewN | apply below_drew1) | exact HB.out)⟩⟩
        case round =>
          clear H'
          try clear c1
          try clear p2
          obtain ⟨x7_1, x29_1, rfl, HA, HK1, HO_7, HB⟩ := hrel
          cases gk with
          | zero => exact absurd HA.out (by simp [draw_merge.l0])
          | succ k1 =>
            have H := HA.out
            clear HA
            simp only [draw_merge.l0] at H
            by_cases c3 : x29_1 < (l2.length : Int)
            · rw [if_pos c3] at H
              have c3b0 : decide (x29_1 < (l2.length : Int)) = true := decide_eq_true c3
              clear c3
              by_cases c4 : 0 ≤ x29_1
              · rw [if_pos c4] at H
                have c4b0 : decide (0 ≤ x29_1) = true := decide_eq_true c4
                clear c4
                by_cases c5 : x29_1 < (l2.length : Int)
                · rw [if_pos c5] at H
                  have c5b0 : decide (x29_1 < (l2.length : Int)) = true := decide_eq_true c5
                  clear c5
                  by_cases c6 : (wrap64 ((x7_1.length : Int) - 1)) ≥ 0
                  · rw [if_pos c6] at H
                    have c6b0 : decide (0 ≤ (wrap64 ((x7_1.length : Int) - 1))) = true := decide_eq_true c6
                    clear c6
                    obtain ⟨ji7, hji7⟩ : ∃ j_ : Int, (wrap64 ((x7_1.length : Int) - 1)) = j_ := ⟨_, rfl⟩
                    replace H : (if 0 ≤ (ji7) then (if (ji7) < (x7_1.length : Int) then (if ((rd_T29 l2 x29_1).f0) ≤ ((rd_T29 x7_1 (ji7)).f1) then (draw_merge.l0 k1 (x7_1.set ((ji7) : Int).toNat (⟨(rd_T29 x7_1 (ji7)).f0, mx ((rd_T29 x7_1 (ji7)).f1) ((rd_T29 l2 x29_1).f1)⟩ : S29)) l2 (l2.length : Int) (wrap64 (x29_1 + 1))) else (if x7_1.length < 8796093022208 then (draw_merge.l0 k1 (x7_1 ++ [(⟨(rd_T29 l2 x29_1).f0, (rd_T29 l2 x29_1).f1⟩ : S29)]) l2 (l2.length : Int) (wrap64 (x29_1 + 1))) else (none))) else (none)) else (none)) = some (r1, r2) := by first | (rw [hji7] at H; exact H) | (simp only [hji7] at H ⊢; exact H)
                    (try rw [hji7] at c6b0)
                    have hji7w : (IntKind.i64.wrap ((x7_1.length : Int) - 1)) = ji7 := (i64_w _).trans hji7
                    by_cases c8 : 0 ≤ (ji7)
                    · rw [if_pos c8] at H
                      have c8b0 : decide (0 ≤ (ji7)) = true := decide_eq_true c8
                      clear c8
                      by_cases c9 : (ji7) < (x7_1.length : Int)
                      · rw [if_pos c9] at H
                        have c9b0 : decide ((ji7) < (x7_1.length : Int)) = true := decide_eq_true c9
                        clear c9
                        by_cases c10 : ((rd_T29 l2 x29_1).f0) ≤ ((rd_T29 x7_1 (ji7)).f1)
                        · rw [if_pos c10] at H
                          have c10b0 : decide (((rd_T29 l2 x29_1).f0) ≤ ((rd_T29 x7_1 (ji7)).f1)) = true := decide_eq_true c10
                          clear c10
                          obtain ⟨ji11, hji11⟩ : ∃ j_ : Int, (mx ((rd_T29 x7_1 (ji7)).f1) ((rd_T29 l2 x29_1).f1)) = j_ := ⟨_, rfl⟩
                          replace H : (draw_merge.l0 k1 (x7_1.set ((ji7) : Int).toNat (⟨(rd_T29 x7_1 (ji7)).f0, ji11⟩ : S29)) l2 (l2.length : Int) (wrap64 (x29_1 + 1))) = some (r1, r2) := by first | (rw [hji11] at H; exact H) | (simp only [hji11] at H ⊢; exact H)
                          have hji11_ : (if ((rd_T29 x7_1 (ji7)).f1) < ((rd_T29 l2 x29_1).f1) then ((rd_T29 l2 x29_1).f1) else ((rd_T29 x7_1 (ji7)).f1)) = ji11 := hji11
                          obtain ⟨y107, hy107⟩ : ∃ y_ : List (S29), y_ = (x7_1.set ((ji7) : Int).toNat (⟨(rd_T29 x7_1 (ji7)).f0, ji11⟩ : S29)) := ⟨_, rfl⟩
                          replace H : (draw_merge.l0 k1 y107 l2 (l2.length : Int) (wrap64 (x29_1 + 1))) = some (r1, r2) := by first | (rw [hy107]; with_reducible exact H) | (have H2_ := (Option.bind_some _ _).symm.trans H; rw [hy107]; with_reducible exact H2_) | (have H2_ := (Option.bind_some _ _).symm.trans H; with_reducible exact H2_) | with_reducible exact H | (rw [hy107]; exact H) | exact H
                          have Ny107 := Aside0.mk hy107
                          clear hy107
                          have H' := Aside0.mk H
                          clear H
                          have p103 : 0 ≤ (x29_1 : Int) := of_decide_eq_true (by first | (with_reducible assumption) | assumption)
                          have q103 : x29_1 < (l2.length : Int) := of_decide_eq_true (by first | (with_reducible assumption) | assumption)
                          obtain ⟨ad103, e103, hx103_0, hx103_1⟩ := at_T29 HR1.out x29_1 p103 q103
                          cases e103
                          replace hx103_0 := (HB.out.cell (World.block_lt_of_cell? w4 _ hx103_0)).trans hx103_0
                          replace hx103_1 := (HB.out.cell (World.block_lt_of_cell? w4 _ hx103_1)).trans hx103_1
                          replace p103 := eq_true p103
                          replace q103 := eq_true q103
                          try go_wp2_with (first | ((with_reducible refine gate_dst (N := 9) rfl ?_); refine box_event ?hg (N := 9) ?hd (cs := #[.int .u64 0, .int .u64 0]) (t := 29) ?hr ?_; (case hd => rfl); (case hg => rfl); (case hr => first | (go_simp; done) | (go_simp; rfl)); intro gb104 hg w13 hbox hb; have n0_ := Aside0.mk (Kd.R_below (Kd.R_elderB (by (with_reducible repeat (first | apply Kd.R_alloc | apply Kd.R_drewN | apply Kd.R_drew)); exact HO_7.out) gb104 (Nat.le_of_eq hg.symm)) hb); have n1_ := Aside0.mk (below_step (by repeat (first | (with_reducible first | exact HB.out | apply below_alloc | apply pw_below_drewN | apply below_drew1) | exact HB.out)) hb); have n2_ := Aside0.mk (hbox); have n3_ := Aside0.mk ((by rw [hg]; exact (below_size (by repeat (first | (with_reducible first | exact HB.out | apply below_alloc | apply pw_below_drewN | apply below_drew1) | exact HB.out))) : w4.heap.size ≤ gb104)); have n4_ := Aside0.mk ((by rw [hg]; exact (below_size (by repeat (first | (with_reducible first | exact HB.out | apply below_alloc | apply pw_below_drewN | apply below_drew1) | exact HB.out))) : w4.heap.size ≤ gb104)); clear HO_7; clear HB; have HO_7 := n0_; have HB := n1_; have BK104 := n2_; have GW104 := n3_; have GE104 := n4_; clear n0_ n1_ n2_ n3_ n4_; clear hb hbox hg; have hcz14_0 : w13.cell? ⟨gb104, 0, none⟩ = some (.int .u64 0) := (blk_cell BK104.out 0).trans rfl; have hcz14_1 : w13.cell? ⟨gb104, 1, none⟩ = some (.int .u64 0) := (blk_cell BK104.out 1).trans rfl; have hfz14_0 := blk_frozen BK104.out 0; have hfz14_1 := blk_frozen BK104.out 1; obtain ⟨Ao15, co15, eo15⟩ := Kd.R_slice HO_7.out; subst eo15))
                          have n0_ : Aside0 (Kd.R k29 29 ((w13.setCell ⟨gb104, 0, none⟩ (.int .u64 ((rd_T29 l2 x29_1).f0))).setCell ⟨gb104, 1, none⟩ (.int .u64 ((rd_T29 l2 x29_1).f1))) w4.heap.size (fun k_ => k_ ≠ gb104) (.slice Ao15 x7_1.length co15) x7_1) := ⟨by (with_reducible repeat (first | apply Kd.R_alloc | apply Kd.R_drewN | apply Kd.R_drew)); exact Kd.R_mono (Kd.R_far (p := ⟨gb104, 1, none⟩) (Kd.R_far (p := ⟨gb104, 0, none⟩) (Kd.R_mono HO_7.out (fun k_ hk => (⟨hk, hk.2⟩ : _ ∧ k_ ≠ gb104))) (fun _ hk => hk.2) (.int .u64 ((rd_T29 l2 x29_1).f0))) (fun _ hk => hk.2) (.int .u64 ((rd_T29 l2 x29_1).f1))) (fun _ hk => hk.1.2)⟩
                          have n1_ : Aside0 (((w13.setCell ⟨gb104, 0, none⟩ (.int .u64 ((rd_T29 l2 x29_1).f0))).setCell ⟨gb104, 1, none⟩ (.int .u64 ((rd_T29 l2 x29_1).f1))).heap[gb104]? = some (.cells #[.int .u64 ((rd_T29 l2 x29_1).f0), .int .u64 ((rd_T29 l2 x29_1).f1)] 29 (0, 0))) := ⟨by (with_reducible repeat (first | refine blk_drewN ?_ _ | refine blk_drew ?_ | refine blk_alloc ?_ _)); refine blk_put (cs := #[.int .u64 ((rd_T29 l2 x29_1).f0), .int .u64 0]) ?_ 1 _ rfl; (with_reducible repeat (first | refine blk_drewN ?_ _ | refine blk_drew ?_ | refine blk_alloc ?_ _)); refine blk_put (cs := #[.int .u64 0, .int .u64 0]) ?_ 0 _ rfl; (with_reducible repeat (first | refine blk_drewN ?_ _ | refine blk_drew ?_ | refine blk_alloc ?_ _)); exact BK104.out⟩
                          have n2_ : Aside0 (Below w4.heap.size w4 ((w13.setCell ⟨gb104, 0, none⟩ (.int .u64 ((rd_T29 l2 x29_1).f0))).setCell ⟨gb104, 1, none⟩ (.int .u64 ((rd_T29 l2 x29_1).f1)))) := ⟨by repeat (first | (with_reducible first | exact HB.out | apply below_alloc | apply pw_below_drewN | apply below_drew1 | refine below_set ?_ GE104.out) | exact HB.out)⟩
                          (try clear HO_7)
                          (try clear BK104)
                          (try clear HB)
                          generalize ((w13.setCell ⟨gb104, 0, none⟩ (.int .u64 ((rd_T29 l2 x29_1).f0))).setCell ⟨gb104, 1, none⟩ (.int .u64 ((rd_T29 l2 x29_1).f1))) = w16 at n0_ n1_ n2_ ⊢
                          have HO_7 := n0_
                          have BK104 := n1_
                          have HB := n2_
                          clear n0_ n1_ n2_
                          have n0_ := Aside0.mk (Kd.R_drew HO_7.out)
                          have n1_ := Aside0.mk (blk_drew BK104.out)
                          have n2_ := Aside0.mk (below_drew1 HB.out)
                          clear HO_7
                          clear BK104
                          clear HB
                          have HO_7 := n0_
                          have BK104 := n1_
                          have HB := n2_
                          clear n0_ n1_ n2_
                          have p105 : 0 ≤ ((ji7) : Int) := of_decide_eq_true (by first | (with_reducible assumption) | assumption)
                          have q105 : (ji7) < (x7_1.length : Int) := of_decide_eq_true (by first | (with_reducible assumption) | assumption)
                          obtain ⟨ad105, e105, hx105_0, hx105_1⟩ := at_T29 (Kd.R_reads' HO_7.out).2.2 (ji7) p105 q105
                          cases e105
                          replace p105 := eq_true p105
                          replace q105 := eq_true q105
                          refine start_ (n := 12) (S := fun w' => w'.cell? ⟨gb104, 0, none⟩ = some (.int .u64 ((rd_T29 l2 x29_1).f0)) ∧ w'.cell? ⟨gb104, 1, none⟩ = some (.int .u64 ((rd_T29 l2 x29_1).f1)) ∧ w'.cell? (ad105.add (((ji7)).toNat * 2)) = some (.int .u64 ((rd_T29 x7_1 (ji7)).f0)) ∧ w'.cell? ⟨(ad105.add (((ji7)).toNat * 2)).block, (ad105.add (((ji7)).toNat * 2)).off + 1, none⟩ = some (.int .u64 ((rd_T29 x7_1 (ji7)).f1))) (ds := []) #[false, false, false, false, false, false, false, false, false, false, false, false] (by kernel_rfl) rfl rfl ⟨(blk_cell BK104.out 0).trans rfl, (blk_cell BK104.out 1).trans rfl, hx105_0, hx105_1⟩ (fun hHeld => ?_); refine with_tabW draw_merge.tab14 draw_merge.bits14 (fun HT_ HW_ => ?_)
                          generalize w16.drew = w17 at HO_7 BK104 HB hx105_0 hx105_1 hHeld ⊢
                          refine pure_ (i := 0) (N := some 36) (v := ?_) (a' := ?_) #[true, false, false, false, false, false, false, false, false, false, false, false] rfl rfl (any_of HT_.out (by kernel_rfl)) (fun _ _ _ h => h) (Or.inl ⟨by rfl, ?_⟩) ?_ ?_
                          rotate_left
                          · intro w'
                            go_simp
                            with_reducible rfl
                          rotate_left
                          · simp only [Act.put, List.setIfInBounds_toArray, List.set_cons_zero, List.set_cons_succ, i64_w, i32_w]
                            rfl
                          refine pure_ (i := 1) (N := some 37) (v := ?_) (a' := ?_) #[true, true, false, false, false, false, false, false, false, false, false, false] rfl rfl (any_of HT_.out (by kernel_rfl)) (fun _ _ _ h => h) (Or.inl ⟨by rfl, ?_⟩) ?_ ?_
                          rotate_left
                          · intro w'
                            go_simp
                            with_reducible rfl
                          rotate_left
                          · simp only [Act.put, List.setIfInBounds_toArray, List.set_cons_zero, List.set_cons_succ, i64_w, i32_w]
                            rfl
                          refine pure_ (i := 2) (N := some 38) (v := ?_) (a' := ?_) #[true, true, true, false, false, false, false, false, false, false, false, false] rfl rfl (any_of HT_.out (by kernel_rfl)) (fun _ _ _ h => h) (Or.inl ⟨by rfl, ?_⟩) ?_ ?_
                          rotate_left
                          · intro w'
                            go_simp
                            with_reducible rfl
                          rotate_left
                          · simp only [Act.put, List.setIfInBounds_toArray, List.set_cons_zero, List.set_cons_succ, i64_w, i32_w]
                            rfl
                          refine pure_ (i := 3) (N := some 39) (v := ?_) (a' := ?_) #[true, true, true, true, false, false, false, false, false, false, false, false] rfl rfl (any_of HT_.out (by kernel_rfl)) (fun _ _ _ h => h) (Or.inl ⟨by rfl, ?_⟩) ?_ ?_
                          rotate_left
                          · intro w'
                            go_simp
                            with_reducible rfl
                          rotate_left
                          · simp only [Act.put, List.setIfInBounds_toArray, List.set_cons_zero, List.set_cons_succ, i64_w, i32_w]
                            rfl
                          refine pure_ (i := 5) (N := some 41) (v := ?_) (a' := ?_) #[true, true, true, true, false, true, false, false, false, false, false, false] rfl rfl (any_of HT_.out (by kernel_rfl)) (fun _ _ _ h => h) (Or.inl ⟨by rfl, ?_⟩) ?_ ?_
                          rotate_left
                          · intro w'
                            go_simp
                            with_reducible rfl
                          rotate_left
                          · simp only [Act.put, List.setIfInBounds_toArray, List.set_cons_zero, List.set_cons_succ, i64_w, i32_w]
                            rfl
                          refine pure_ (i := 6) (N := some 42) (v := ?_) (a' := ?_) #[true, true, true, true, false, true, true, false, false, false, false, false] rfl rfl (any_of HT_.out (by kernel_rfl)) (fun _ _ _ h => h) (Or.inl ⟨by rfl, ?_⟩) ?_ ?_
                          rotate_left
                          · intro w'
                            go_simp
                            with_reducible rfl
                          rotate_left
                          · simp only [Act.put, List.setIfInBounds_toArray, List.set_cons_zero, List.set_cons_succ, i64_w, i32_w]
                            rfl
                          refine pure_ (i := 7) (N := some 43) (v := ?_) (a' := ?_) #[true, true, true, true, false, true, true, true, false, false, false, false] rfl rfl (any_of HT_.out (by kernel_rfl)) (fun _ _ _ h => h) (Or.inl ⟨by rfl, ?_⟩) ?_ ?_
                          rotate_left
                          · intro w'
                            go_simp
                            with_reducible rfl
                          rotate_left
                          · simp only [Act.put, List.setIfInBounds_toArray, List.set_cons_zero, List.set_cons_succ, i64_w, i32_w]
                            rfl
                          refine pure_ (i := 8) (N := some 44) (v := ?_) (a' := ?_) #[true, true, true, true, false, true, true, true, true, false, false, false] rfl rfl (any_of HT_.out (by kernel_rfl)) (fun _ _ _ h => h) (Or.inl ⟨by rfl, ?_⟩) ?_ ?_
                          rotate_left
                          · intro w'
                            go_simp
                            with_reducible rfl
                          rotate_left
                          · simp only [Act.put, List.setIfInBounds_toArray, List.set_cons_zero, List.set_cons_succ, i64_w, i32_w]
                            rfl
                          refine take_ (i := 4) (N := some 40) (v := ?_) (a' := ?_) #[true, true, true, true, true, true, true, true, true, false, false, false] rfl rfl (take_ofW HT_.out HW_.out (by kernel_rfl)) (fun _ _ _ h => h) (Or.inl ⟨by rfl, ?_⟩) hHeld ?_ ?_
                          rotate_left
                          · rintro w' ⟨s0, s1, s2, s3⟩
                            go_simp
                            with_reducible rfl
                          rotate_left
                          · simp only [Act.put, List.setIfInBounds_toArray, List.set_cons_zero, List.set_cons_succ, i64_w, i32_w]
                            rfl
                          refine take_ (i := 9) (N := some 45) (v := ?_) (a' := ?_) #[true, true, true, true, true, true, true, true, true, true, false, false] rfl rfl (take_ofW HT_.out HW_.out (by kernel_rfl)) (fun _ _ _ h => h) (Or.inl ⟨by rfl, ?_⟩) hHeld ?_ ?_
                          rotate_left
                          · rintro w' ⟨s0, s1, s2, s3⟩
                            go_simp
                            with_reducible rfl
                          rotate_left
                          · simp only [Act.put, List.setIfInBounds_toArray, List.set_cons_zero, List.set_cons_succ, i64_w, i32_w]
                            rfl
                          refine pure_ (i := 10) (N := some 46) (v := ?_) (a' := ?_) #[true, true, true, true, true, true, true, true, true, true, true, false] rfl rfl (any_of HT_.out (by kernel_rfl)) (fun _ _ _ h => h) (Or.inl ⟨by rfl, ?_⟩) ?_ ?_
                          rotate_left
                          · intro w'
                            go_simp
                            with_reducible rfl
                          rotate_left
                          · simp only [Act.put, List.setIfInBounds_toArray, List.set_cons_zero, List.set_cons_succ, i64_w, i32_w]
                            rfl
                          refine pure_ (i := 11) (N := some 47) (v := ?_) (a' := ?_) #[true, true, true, true, true, true, true, true, true, true, true, true] rfl rfl (any_of HT_.out (by kernel_rfl)) (fun _ _ _ h => h) (Or.inl ⟨by rfl, ?_⟩) ?_ ?_
                          rotate_left
                          · intro w'
                            go_simp
                            with_reducible rfl
                          rotate_left
                          · simp only [Act.put, List.setIfInBounds_toArray, List.set_cons_zero, List.set_cons_succ, i64_w, i32_w]
                            rfl
                          refine done_ (done_of HT_.out (by kernel_rfl)) ?_
                          try go_wp2
                          have n0_ := Aside0.mk (Kd.R_drew HO_7.out)
                          have n1_ := Aside0.mk (blk_drew BK104.out)
                          have n2_ := Aside0.mk (below_drew1 HB.out)
                          clear HO_7
                          clear BK104
                          clear HB
                          have HO_7 := n0_
                          have BK104 := n1_
                          have HB := n2_
                          clear n0_ n1_ n2_
                          have p106 : 0 ≤ ((ji7) : Int) := of_decide_eq_true (by first | (with_reducible assumption) | assumption)
                          have q106 : (ji7) < (x7_1.length : Int) := of_decide_eq_true (by first | (with_reducible assumption) | assumption)
                          obtain ⟨ad106, e106, hx106_0, hx106_1⟩ := at_T29 (Kd.R_reads' HO_7.out).2.2 (ji7) p106 q106
                          obtain rfl : ad105 = ad106 := (by injection e106)
                          replace p106 := eq_true p106
                          replace q106 := eq_true q106
                          have p12 : 0 ≤ ((ji7) : Int) := of_decide_eq_true (by first | (with_reducible assumption) | assumption)
                          have q12 : ((ji7) : Int) < ((x7_1.length : Int) : Int) := of_decide_eq_true (by first | (with_reducible assumption) | assumption)
                          obtain ⟨go12, co12, eo12, gb12, gl12, cl12, HG12⟩ := Kd.R_form HO_7.out (by omega)
                          (first | cases eo12 | (injection eo12 with ea_ en_ ec_; (first | subst ea_ | (injection ea_ with ea_; subst ea_)); subst ec_; clear en_))
                          have GB12 := Aside0.mk gb12
                          have GG12 := Aside0.mk HG12
                          clear gb12 gl12 HG12
                          (first | simp only [add_plain] at hx105_0 | skip)
                          (first | simp only [add_plain] at hx105_1 | skip)
                          (first | simp only [add_plain] at hx106_0 | skip)
                          (first | simp only [add_plain] at hx106_1 | skip)
                          obtain ⟨ce12, hcl12, hM12, hcc12, hfr12⟩ := Kd.R_elem HO_7.out z29 ((ji7) : Int) p12 q12
                          obtain rfl := k29_openM hM12
                          have hx12_0 : World.cell? _ ⟨go12, ((ji7) : Int).toNat * 2, none⟩ = some (.int .u64 ((rd_T29 x7_1 (ji7)).f0)) := hcc12 0 _ rfl
                          have hx12_1 : World.cell? _ ⟨go12, ((ji7) : Int).toNat * 2 + 1, none⟩ = some (.int .u64 ((rd_T29 x7_1 (ji7)).f1)) := hcc12 1 _ rfl
                          have hf12_0 : World.frozen? _ ⟨go12, ((ji7) : Int).toNat * 2, none⟩ = false := hfr12 0
                          have hf12_1 : World.frozen? _ ⟨go12, ((ji7) : Int).toNat * 2 + 1, none⟩ = false := hfr12 1
                          clear hcl12 hcc12 hfr12 hM12
                          replace p12 := eq_true p12
                          replace q12 := eq_true q12
                          obtain ⟨ce19, hcl19, hM19, hcc19, hfr19⟩ := Kd.R_elem HO_7.out z29 ((ji7) : Int) (of_decide_eq_true (by first | (with_reducible assumption) | assumption)) (by have h_ : ((ji7) : Int) < ((x7_1.length : Int) : Int) := of_decide_eq_true (by first | (with_reducible assumption) | assumption); first | exact h_ | (have e_ := (Kd.R_reads' HO_7.out).1; omega) | simpa using h_)
                          obtain rfl := k29_openM hM19
                          have HP19 := (Kd.R_seg HO_7.out ((ji7) : Int) (of_decide_eq_true (by first | (with_reducible assumption) | assumption)) (by have h_ : ((ji7) : Int) < ((x7_1.length : Int) : Int) := of_decide_eq_true (by first | (with_reducible assumption) | assumption); first | exact h_ | (have e_ := (Kd.R_reads' HO_7.out).1; omega) | simpa using h_) (seg := [.int .u64 ji11]) (j := 1) hcl19 hcc19 (show 2 ≤ 2 from by decide) (x' := (⟨(rd_T29 x7_1 (ji7)).f0, ji11⟩ : S29)) (k29_mkM _ _ _ (⟨(rd_T29 x7_1 (ji7)).f0, ji11⟩ : S29) ) (fun _ hk => hk)).1
                          rw [← Ny107.out] at HP19
                          have HQ19 := Aside0.mk HP19
                          clear hcl19 hcc19 hfr19 hM19 HP19
                          refine start_ (n := 13) (S := fun w' => w'.cell? ⟨gb104, 0, none⟩ = some (.int .u64 ((rd_T29 l2 x29_1).f0)) ∧ w'.cell? ⟨gb104, 1, none⟩ = some (.int .u64 ((rd_T29 l2 x29_1).f1)) ∧ w'.cell? ⟨go12, ((ji7) : Int).toNat * 2, none⟩ = some (.int .u64 ((rd_T29 x7_1 (ji7)).f0)) ∧ w'.cell? ⟨go12, ((ji7) : Int).toNat * 2 + 1, none⟩ = some (.int .u64 ((rd_T29 x7_1 (ji7)).f1))) (ds := [12]) #[false, false, false, false, false, false, false, false, false, false, false, false, false] (by kernel_rfl) rfl rfl ⟨(blk_cell BK104.out 0).trans rfl, (blk_cell BK104.out 1).trans rfl, hx106_0, hx106_1⟩ (fun hHeld => ?_); refine with_tabW draw_merge.tab15 draw_merge.bits15 (fun HT_ HW_ => ?_)
                          generalize w17.drew = w18 at HO_7 BK104 HB GG12 HQ19 hf12_0 hf12_1 hx105_0 hx105_1 hx106_0 hx106_1 hx12_0 hx12_1 hHeld ⊢
                          refine pure_ (i := 0) (N := some 48) (v := ?_) (a' := ?_) #[true, false, false, false, false, false, false, false, false, false, false, false, false] rfl rfl (any_of HT_.out (by kernel_rfl)) (fun _ _ _ h => h) (Or.inl ⟨by rfl, ?_⟩) ?_ ?_
                          rotate_left
                          · intro w'
                            go_simp
                            with_reducible rfl
                          rotate_left
                          · simp only [Act.put, List.setIfInBounds_toArray, List.set_cons_zero, List.set_cons_succ, i64_w, i32_w]
                            rfl
                          refine pure_ (i := 1) (N := some 49) (v := ?_) (a' := ?_) #[true, true, false, false, false, false, false, false, false, false, false, false, false] rfl rfl (any_of HT_.out (by kernel_rfl)) (fun _ _ _ h => h) (Or.inl ⟨by rfl, ?_⟩) ?_ ?_
                          rotate_left
                          · intro w'
                            go_simp
                            with_reducible rfl
                          rotate_left
                          · simp only [Act.put, List.setIfInBounds_toArray, List.set_cons_zero, List.set_cons_succ, i64_w, i32_w]
                            rfl
                          refine pure_ (i := 2) (N := some 50) (v := ?_) (a' := ?_) #[true, true, true, false, false, false, false, false, false, false, false, false, false] rfl rfl (any_of HT_.out (by kernel_rfl)) (fun _ _ _ h => h) (Or.inl ⟨by rfl, ?_⟩) ?_ ?_
                          rotate_left
                          · intro w'
                            go_simp
                            with_reducible rfl
                          rotate_left
                          · simp only [Act.put, List.setIfInBounds_toArray, List.set_cons_zero, List.set_cons_succ, i64_w, i32_w]
                            rfl
                          refine pure_ (i := 3) (N := some 51) (v := ?_) (a' := ?_) #[true, true, true, true, false, false, false, false, false, false, false, false, false] rfl rfl (any_of HT_.out (by kernel_rfl)) (fun _ _ _ h => h) (Or.inl ⟨by rfl, ?_⟩) ?_ ?_
                          rotate_left
                          · intro w'
                            go_simp
                            with_reducible rfl
                          rotate_left
                          · simp only [Act.put, List.setIfInBounds_toArray, List.set_cons_zero, List.set_cons_succ, i64_w, i32_w]
                            rfl
                          refine pure_ (i := 4) (N := some 52) (v := ?_) (a' := ?_) #[true, true, true, true, true, false, false, false, false, false, false, false, false] rfl rfl (any_of HT_.out (by kernel_rfl)) (fun _ _ _ h => h) (Or.inl ⟨by rfl, ?_⟩) ?_ ?_
                          rotate_left
                          · intro w'
                            go_simp
                            with_reducible rfl
                          rotate_left
                          · simp only [Act.put, List.setIfInBounds_toArray, List.set_cons_zero, List.set_cons_succ, i64_w, i32_w]
                            rfl
                          refine pure_ (i := 5) (N := some 53) (v := ?_) (a' := ?_) #[true, true, true, true, true, true, false, false, false, false, false, false, false] rfl rfl (any_of HT_.out (by kernel_rfl)) (fun _ _ _ h => h) (Or.inl ⟨by rfl, ?_⟩) ?_ ?_
                          rotate_left
                          · intro w'
                            go_simp
                            with_reducible rfl
                          rotate_left
                          · simp only [Act.put, List.setIfInBounds_toArray, List.set_cons_zero, List.set_cons_succ, i64_w, i32_w]
                            rfl
                          refine pure_ (i := 7) (N := some 55) (v := ?_) (a' := ?_) #[true, true, true, true, true, true, false, true, false, false, false, false, false] rfl rfl (any_of HT_.out (by kernel_rfl)) (fun _ _ _ h => h) (Or.inl ⟨by rfl, ?_⟩) ?_ ?_
                          rotate_left
                          · intro w'
                            go_simp
                            with_reducible rfl
                          rotate_left
                          · simp only [Act.put, List.setIfInBounds_toArray, List.set_cons_zero, List.set_cons_succ, i64_w, i32_w]
                            rfl
                          refine take_ (i := 6) (N := some 54) (v := ?_) (a' := ?_) #[true, true, true, true, true, true, true, true, false, false, false, false, false] rfl rfl (take_ofW HT_.out HW_.out (by kernel_rfl)) (fun _ _ _ h => h) (Or.inl ⟨by rfl, ?_⟩) hHeld ?_ ?_
                          rotate_left
                          · rintro w' ⟨s0, s1, s2, s3⟩
                            go_simp
                            with_reducible rfl
                          rotate_left
                          · simp only [Act.put, List.setIfInBounds_toArray, List.set_cons_zero, List.set_cons_succ, i64_w, i32_w]
                            rfl
                          refine take_ (i := 8) (N := some 56) (v := ?_) (a' := ?_) #[true, true, true, true, true, true, true, true, true, false, false, false, false] rfl rfl (take_ofW HT_.out HW_.out (by kernel_rfl)) (fun _ _ _ h => h) (Or.inl ⟨by rfl, ?_⟩) hHeld ?_ ?_
                          rotate_left
                          · rintro w' ⟨s0, s1, s2, s3⟩
                            go_simp
                            with_reducible rfl
                          rotate_left
                          · simp only [Act.put, List.setIfInBounds_toArray, List.set_cons_zero, List.set_cons_succ, i64_w, i32_w]
                            rfl
                          refine pure_ (i := 9) (N := some 57) (v := ?_) (a' := ?_) #[true, true, true, true, true, true, true, true, true, true, false, false, false] rfl rfl (any_of HT_.out (by kernel_rfl)) (fun _ _ _ h => h) (Or.inl ⟨by rfl, ?_⟩) ?_ ?_
                          rotate_left
                          · intro w'
                            go_simp
                            with_reducible rfl
                          rotate_left
                          · simp only [Act.put, List.setIfInBounds_toArray, List.set_cons_zero, List.set_cons_succ, i64_w, i32_w]
                            rfl
                          refine pure_ (i := 10) (N := some 58) (v := ?_) (a' := ?_) #[true, true, true, true, true, true, true, true, true, true, true, false, false] rfl rfl (any_of HT_.out (by kernel_rfl)) (fun _ _ _ h => h) (Or.inl ⟨by rfl, ?_⟩) ?_ ?_
                          rotate_left
                          · intro w'
                            go_simp
                            with_reducible rfl
                          rotate_left
                          · simp only [Act.put, List.setIfInBounds_toArray, List.set_cons_zero, List.set_cons_succ, i64_w, i32_w]
                            rfl
                          refine pure_ (i := 11) (N := some 59) (v := ?_) (a' := ?_) #[true, true, true, true, true, true, true, true, true, true, true, true, false] rfl rfl (any_of HT_.out (by kernel_rfl)) (fun _ _ _ h => h) (Or.inl ⟨by rfl, ?_⟩) ?_ ?_
                          rotate_left
                          · intro w'
                            go_simp
                            with_reducible rfl
                          rotate_left
                          · simp only [Act.put, List.setIfInBounds_toArray, List.set_cons_zero, List.set_cons_succ, i64_w, i32_w]
                            rfl
                          refine last_ (i := 12) (N := none) #[true, true, true, true, true, true, true, true, true, true, true, true, true] rfl rfl (one_of HT_.out (by kernel_rfl)) (by decide) (fun K hK => ?_)
                          refine skip_ (w1 := ?_) (by rfl) rfl ?_ ?_
                          rotate_left
                          · go_simp
                            rfl
                          refine hK.out _ _ ?_
                          clear hK K
                          refine done_ (done_of HT_.out (by kernel_rfl)) ?_
                          try go_wp2
                          go_roundg k1
                          case measure => have := HK1.out; omega
                          case rel => exact ⟨(y107), (wrap64 (x29_1 + 1)), (by first | rfl | (simp; done) | (simp [*]; done)), H', ⟨by have := HK1.out; omega⟩, ⟨by (with_reducible repeat (first | apply Kd.R_alloc | apply Kd.R_drewN | apply Kd.R_drew)); exact Kd.R_mono HQ19.out (fun _ hk => trivial)⟩, ⟨by repeat (first | (with_reducible first | exact HB.out | apply below_alloc | apply pw_below_drewN | apply below_drew1 | refine below_set ?_ GB12.out | refine below_set ?_ GE104.out) | exact HB.out)⟩⟩
                        · rw [if_neg c10] at H
                          have c10b0 : decide (((rd_T29 l2 x29_1).f0) ≤ ((rd_T29 x7_1 (ji7)).f1)) = false := decide_eq_false c10
                          clear c10
                          by_cases c20 : x7_1.length < 8796093022208
                          · rw [if_pos c20] at H
                            have LMc20 := Aside0.mk c20
                            clear c20
                            obtain ⟨y108, hy108⟩ : ∃ y_ : List (S29), y_ = (x7_1 ++ [(⟨(rd_T29 l2 x29_1).f0, (rd_T29 l2 x29_1).f1⟩ : S29)]) := ⟨_, rfl⟩
                            replace H : (draw_merge.l0 k1 y108 l2 (l2.length : Int) (wrap64 (x29_1 + 1))) = some (r1, r2) := by first | (rw [hy108]; with_reducible exact H) | (have H2_ := (Option.bind_some _ _).symm.trans H; rw [hy108]; with_reducible exact H2_) | (have H2_ := (Option.bind_some _ _).symm.trans H; with_reducible exact H2_) | with_reducible exact H | (rw [hy108]; exact H) | exact H
                            have Ny108 := Aside0.mk hy108
                            clear hy108
                            have H' := Aside0.mk H
                            clear H
                            have p103 : 0 ≤ (x29_1 : Int) := of_decide_eq_true (by first | (with_reducible assumption) | assumption)
                            have q103 : x29_1 < (l2.length : Int) := of_decide_eq_true (by first | (with_reducible assumption) | assumption)
                            obtain ⟨ad103, e103, hx103_0, hx103_1⟩ := at_T29 HR1.out x29_1 p103 q103
                            cases e103
                            replace hx103_0 := (HB.out.cell (World.block_lt_of_cell? w4 _ hx103_0)).trans hx103_0
                            replace hx103_1 := (HB.out.cell (World.block_lt_of_cell? w4 _ hx103_1)).trans hx103_1
                            replace p103 := eq_true p103
                            replace q103 := eq_true q103
                            try go_wp2_with (first | ((with_reducible refine gate_dst (N := 9) rfl ?_); refine box_event ?hg (N := 9) ?hd (cs := #[.int .u64 0, .int .u64 0]) (t := 29) ?hr ?_; (case hd => rfl); (case hg => rfl); (case hr => first | (go_simp; done) | (go_simp; rfl)); intro gb104 hg w21 hbox hb; have n0_ := Aside0.mk (Kd.R_below (Kd.R_elderB (by (with_reducible repeat (first | apply Kd.R_alloc | apply Kd.R_drewN | apply Kd.R_drew)); exact HO_7.out) gb104 (Nat.le_of_eq hg.symm)) hb); have n1_ := Aside0.mk (below_step (by repeat (first | (with_reducible first | exact HB.out | apply below_alloc | apply pw_below_drewN | apply below_drew1) | exact HB.out)) hb); have n2_ := Aside0.mk (hbox); have n3_ := Aside0.mk ((by rw [hg]; exact (below_size (by repeat (first | (with_reducible first | exact HB.out | apply below_alloc | apply pw_below_drewN | apply below_drew1) | exact HB.out))) : w4.heap.size ≤ gb104)); have n4_ := Aside0.mk ((by rw [hg]; exact (below_size (by repeat (first | (with_reducible first | exact HB.out | apply below_alloc | apply pw_below_drewN | apply below_drew1) | exact HB.out))) : w4.heap.size ≤ gb104)); clear HO_7; clear HB; have HO_7 := n0_; have HB := n1_; have BK104 := n2_; have GW104 := n3_; have GE104 := n4_; clear n0_ n1_ n2_ n3_ n4_; clear hb hbox hg; have hcz22_0 : w21.cell? ⟨gb104, 0, none⟩ = some (.int .u64 0) := (blk_cell BK104.out 0).trans rfl; have hcz22_1 : w21.cell? ⟨gb104, 1, none⟩ = some (.int .u64 0) := (blk_cell BK104.out 1).trans rfl; have hfz22_0 := blk_frozen BK104.out 0; have hfz22_1 := blk_frozen BK104.out 1; obtain ⟨Ao23, co23, eo23⟩ := Kd.R_slice HO_7.out; subst eo23))
                            have n0_ : Aside0 (Kd.R k29 29 ((w21.setCell ⟨gb104, 0, none⟩ (.int .u64 ((rd_T29 l2 x29_1).f0))).setCell ⟨gb104, 1, none⟩ (.int .u64 ((rd_T29 l2 x29_1).f1))) w4.heap.size (fun k_ => k_ ≠ gb104) (.slice Ao23 x7_1.length co23) x7_1) := ⟨by (with_reducible repeat (first | apply Kd.R_alloc | apply Kd.R_drewN | apply Kd.R_drew)); exact Kd.R_mono (Kd.R_far (p := ⟨gb104, 1, none⟩) (Kd.R_far (p := ⟨gb104, 0, none⟩) (Kd.R_mono HO_7.out (fun k_ hk => (⟨hk, hk.2⟩ : _ ∧ k_ ≠ gb104))) (fun _ hk => hk.2) (.int .u64 ((rd_T29 l2 x29_1).f0))) (fun _ hk => hk.2) (.int .u64 ((rd_T29 l2 x29_1).f1))) (fun _ hk => hk.1.2)⟩
                            have n1_ : Aside0 (((w21.setCell ⟨gb104, 0, none⟩ (.int .u64 ((rd_T29 l2 x29_1).f0))).setCell ⟨gb104, 1, none⟩ (.int .u64 ((rd_T29 l2 x29_1).f1))).heap[gb104]? = some (.cells #[.int .u64 ((rd_T29 l2 x29_1).f0), .int .u64 ((rd_T29 l2 x29_1).f1)] 29 (0, 0))) := ⟨by (with_reducible repeat (first | refine blk_drewN ?_ _ | refine blk_drew ?_ | refine blk_alloc ?_ _)); refine blk_put (cs := #[.int .u64 ((rd_T29 l2 x29_1).f0), .int .u64 0]) ?_ 1 _ rfl; (with_reducible repeat (first | refine blk_drewN ?_ _ | refine blk_drew ?_ | refine blk_alloc ?_ _)); refine blk_put (cs := #[.int .u64 0, .int .u64 0]) ?_ 0 _ rfl; (with_reducible repeat (first | refine blk_drewN ?_ _ | refine blk_drew ?_ | refine blk_alloc ?_ _)); exact BK104.out⟩
                            have n2_ : Aside0 (Below w4.heap.size w4 ((w21.setCell ⟨gb104, 0, none⟩ (.int .u64 ((rd_T29 l2 x29_1).f0))).setCell ⟨gb104, 1, none⟩ (.int .u64 ((rd_T29 l2 x29_1).f1)))) := ⟨by repeat (first | (with_reducible first | exact HB.out | apply below_alloc | apply pw_below_drewN | apply below_drew1 | refine below_set ?_ GE104.out) | exact HB.out)⟩
                            (try clear HO_7)
                            (try clear BK104)
                            (try clear HB)
                            generalize ((w21.setCell ⟨gb104, 0, none⟩ (.int .u64 ((rd_T29 l2 x29_1).f0))).setCell ⟨gb104, 1, none⟩ (.int .u64 ((rd_T29 l2 x29_1).f1))) = w24 at n0_ n1_ n2_ ⊢
                            have HO_7 := n0_
                            have BK104 := n1_
                            have HB := n2_
                            clear n0_ n1_ n2_
                            have n0_ := Aside0.mk (Kd.R_drew HO_7.out)
                            have n1_ := Aside0.mk (blk_drew BK104.out)
                            have n2_ := Aside0.mk (below_drew1 HB.out)
                            clear HO_7
                            clear BK104
                            clear HB
                            have HO_7 := n0_
                            have BK104 := n1_
                            have HB := n2_
                            clear n0_ n1_ n2_
                            have p105 : 0 ≤ ((ji7) : Int) := of_decide_eq_true (by first | (with_reducible assumption) | assumption)
                            have q105 : (ji7) < (x7_1.length : Int) := of_decide_eq_true (by first | (with_reducible assumption) | assumption)
                            obtain ⟨ad105, e105, hx105_0, hx105_1⟩ := at_T29 (Kd.R_reads' HO_7.out).2.2 (ji7) p105 q105
                            cases e105
                            replace p105 := eq_true p105
                            replace q105 := eq_true q105
                            refine start_ (n := 12) (S := fun w' => w'.cell? ⟨gb104, 0, none⟩ = some (.int .u64 ((rd_T29 l2 x29_1).f0)) ∧ w'.cell? ⟨gb104, 1, none⟩ = some (.int .u64 ((rd_T29 l2 x29_1).f1)) ∧ w'.cell? (ad105.add (((ji7)).toNat * 2)) = some (.int .u64 ((rd_T29 x7_1 (ji7)).f0)) ∧ w'.cell? ⟨(ad105.add (((ji7)).toNat * 2)).block, (ad105.add (((ji7)).toNat * 2)).off + 1, none⟩ = some (.int .u64 ((rd_T29 x7_1 (ji7)).f1))) (ds := []) #[false, false, false, false, false, false, false, false, false, false, false, false] (by kernel_rfl) rfl rfl ⟨(blk_cell BK104.out 0).trans rfl, (blk_cell BK104.out 1).trans rfl, hx105_0, hx105_1⟩ (fun hHeld => ?_); refine with_tabW draw_merge.tab14 draw_merge.bits14 (fun HT_ HW_ => ?_)
                            generalize w24.drew = w25 at HO_7 BK104 HB hx105_0 hx105_1 hHeld ⊢
                            refine pure_ (i := 0) (N := some 36) (v := ?_) (a' := ?_) #[true, false, false, false, false, false, false, false, false, false, false, false] rfl rfl (any_of HT_.out (by kernel_rfl)) (fun _ _ _ h => h) (Or.inl ⟨by rfl, ?_⟩) ?_ ?_
                            rotate_left
                            · intro w'
                              go_simp
                              with_reducible rfl
                            rotate_left
                            · simp only [Act.put, List.setIfInBounds_toArray, List.set_cons_zero, List.set_cons_succ, i64_w, i32_w]
                              rfl
                            refine pure_ (i := 1) (N := some 37) (v := ?_) (a' := ?_) #[true, true, false, false, false, false, false, false, false, false, false, false] rfl rfl (any_of HT_.out (by kernel_rfl)) (fun _ _ _ h => h) (Or.inl ⟨by rfl, ?_⟩) ?_ ?_
                            rotate_left
                            · intro w'
                              go_simp
                              with_reducible rfl
                            rotate_left
                            · simp only [Act.put, List.setIfInBounds_toArray, List.set_cons_zero, List.set_cons_succ, i64_w, i32_w]
                              rfl
                            refine pure_ (i := 2) (N := some 38) (v := ?_) (a' := ?_) #[true, true, true, false, false, false, false, false, false, false, false, false] rfl rfl (any_of HT_.out (by kernel_rfl)) (fun _ _ _ h => h) (Or.inl ⟨by rfl, ?_⟩) ?_ ?_
                            rotate_left
                            · intro w'
                              go_simp
                              with_reducible rfl
                            rotate_left
                            · simp only [Act.put, List.setIfInBounds_toArray, List.set_cons_zero, List.set_cons_succ, i64_w, i32_w]
                              rfl
                            refine pure_ (i := 3) (N := some 39) (v := ?_) (a' := ?_) #[true, true, true, true, false, false, false, false, false, false, false, false] rfl rfl (any_of HT_.out (by kernel_rfl)) (fun _ _ _ h => h) (Or.inl ⟨by rfl, ?_⟩) ?_ ?_
                            rotate_left
                            · intro w'
                              go_simp
                              with_reducible rfl
                            rotate_left
                            · simp only [Act.put, List.setIfInBounds_toArray, List.set_cons_zero, List.set_cons_succ, i64_w, i32_w]
                              rfl
                            refine pure_ (i := 5) (N := some 41) (v := ?_) (a' := ?_) #[true, true, true, true, false, true, false, false, false, false, false, false] rfl rfl (any_of HT_.out (by kernel_rfl)) (fun _ _ _ h => h) (Or.inl ⟨by rfl, ?_⟩) ?_ ?_
                            rotate_left
                            · intro w'
                              go_simp
                              with_reducible rfl
                            rotate_left
                            · simp only [Act.put, List.setIfInBounds_toArray, List.set_cons_zero, List.set_cons_succ, i64_w, i32_w]
                              rfl
                            refine pure_ (i := 6) (N := some 42) (v := ?_) (a' := ?_) #[true, true, true, true, false, true, true, false, false, false, false, false] rfl rfl (any_of HT_.out (by kernel_rfl)) (fun _ _ _ h => h) (Or.inl ⟨by rfl, ?_⟩) ?_ ?_
                            rotate_left
                            · intro w'
                              go_simp
                              with_reducible rfl
                            rotate_left
                            · simp only [Act.put, List.setIfInBounds_toArray, List.set_cons_zero, List.set_cons_succ, i64_w, i32_w]
                              rfl
                            refine pure_ (i := 7) (N := some 43) (v := ?_) (a' := ?_) #[true, true, true, true, false, true, true, true, false, false, false, false] rfl rfl (any_of HT_.out (by kernel_rfl)) (fun _ _ _ h => h) (Or.inl ⟨by rfl, ?_⟩) ?_ ?_
                            rotate_left
                            · intro w'
                              go_simp
                              with_reducible rfl
                            rotate_left
                            · simp only [Act.put, List.setIfInBounds_toArray, List.set_cons_zero, List.set_cons_succ, i64_w, i32_w]
                              rfl
                            refine pure_ (i := 8) (N := some 44) (v := ?_) (a' := ?_) #[true, true, true, true, false, true, true, true, true, false, false, false] rfl rfl (any_of HT_.out (by kernel_rfl)) (fun _ _ _ h => h) (Or.inl ⟨by rfl, ?_⟩) ?_ ?_
                            rotate_left
                            · intro w'
                              go_simp
                              with_reducible rfl
                            rotate_left
                            · simp only [Act.put, List.setIfInBounds_toArray, List.set_cons_zero, List.set_cons_succ, i64_w, i32_w]
                              rfl
                            refine take_ (i := 4) (N := some 40) (v := ?_) (a' := ?_) #[true, true, true, true, true, true, true, true, true, false, false, false] rfl rfl (take_ofW HT_.out HW_.out (by kernel_rfl)) (fun _ _ _ h => h) (Or.inl ⟨by rfl, ?_⟩) hHeld ?_ ?_
                            rotate_left
                            · rintro w' ⟨s0, s1, s2, s3⟩
                              go_simp
                              with_reducible rfl
                            rotate_left
                            · simp only [Act.put, List.setIfInBounds_toArray, List.set_cons_zero, List.set_cons_succ, i64_w, i32_w]
                              rfl
                            refine take_ (i := 9) (N := some 45) (v := ?_) (a' := ?_) #[true, true, true, true, true, true, true, true, true, true, false, false] rfl rfl (take_ofW HT_.out HW_.out (by kernel_rfl)) (fun _ _ _ h => h) (Or.inl ⟨by rfl, ?_⟩) hHeld ?_ ?_
                            rotate_left
                            · rintro w' ⟨s0, s1, s2, s3⟩
                              go_simp
                              with_reducible rfl
                            rotate_left
                            · simp only [Act.put, List.setIfInBounds_toArray, List.set_cons_zero, List.set_cons_succ, i64_w, i32_w]
                              rfl
                            refine pure_ (i := 10) (N := some 46) (v := ?_) (a' := ?_) #[true, true, true, true, true, true, true, true, true, true, true, false] rfl rfl (any_of HT_.out (by kernel_rfl)) (fun _ _ _ h => h) (Or.inl ⟨by rfl, ?_⟩) ?_ ?_
                            rotate_left
                            · intro w'
                              go_simp
                              with_reducible rfl
                            rotate_left
                            · simp only [Act.put, List.setIfInBounds_toArray, List.set_cons_zero, List.set_cons_succ, i64_w, i32_w]
                              rfl
                            refine pure_ (i := 11) (N := some 47) (v := ?_) (a' := ?_) #[true, true, true, true, true, true, true, true, true, true, true, true] rfl rfl (any_of HT_.out (by kernel_rfl)) (fun _ _ _ h => h) (Or.inl ⟨by rfl, ?_⟩) ?_ ?_
                            rotate_left
                            · intro w'
                              go_simp
                              with_reducible rfl
                            rotate_left
                            · simp only [Act.put, List.setIfInBounds_toArray, List.set_cons_zero, List.set_cons_succ, i64_w, i32_w]
                              rfl
                            refine done_ (done_of HT_.out (by kernel_rfl)) ?_
                            have hcz26_0 : w25.cell? ⟨gb104, 0, none⟩ = some (.int .u64 ((rd_T29 l2 x29_1).f0)) := (blk_cell BK104.out 0).trans rfl
                            have hcz26_1 : w25.cell? ⟨gb104, 1, none⟩ = some (.int .u64 ((rd_T29 l2 x29_1).f1)) := (blk_cell BK104.out 1).trans rfl
                            have hfz26_0 := blk_frozen BK104.out 0
                            have hfz26_1 := blk_frozen BK104.out 1
                            try go_wp2_with (first | ((with_reducible refine gate_builtin (b := .append) (xs := #[.tmp 60, .tmp 62]) rfl ?_); at_builtin; refine Kd.R_append k29 (w0 := w4) w4.heap.size rfl (.tmp 60) (.tmp 62) 36 29 (.agg #[(.int .u64 0), (.int .u64 0)]) 16 rfl Try.underlying36 info29 rfl (by decide) (by omega) (.slice (some ad105) x7_1.length co23) x7_1 (⟨(rd_T29 l2 x29_1).f0, (rd_T29 l2 x29_1).f1⟩ : S29) [.int .u64 ((rd_T29 l2 x29_1).f0), .int .u64 ((rd_T29 l2 x29_1).f1)] (fun k_ => k_ ≠ gb104) (fun _ => False) rfl rfl ?aP (fun _ hk => hk.elim) ?aF ?aO ?aB ?aS ?aL ?_; (case aP => exact k29_mkM _ _ _ (⟨(rd_T29 l2 x29_1).f0, (rd_T29 l2 x29_1).f1⟩ : S29)); (case aB => exact (by repeat (first | (with_reducible first | exact HB.out | apply below_alloc | apply pw_below_drewN | apply below_drew1 | refine below_set ?_ GE104.out) | exact HB.out))); (case aF => exact (fun k_ hk => Kd.freshB (g := gb104) (o := .cells #[.int .u64 ((rd_T29 l2 x29_1).f0), .int .u64 ((rd_T29 l2 x29_1).f1)] 29 (0, 0)) (by (with_reducible repeat (first | refine blk_drewN ?_ _ | refine blk_drew ?_ | refine blk_alloc ?_ _)); exact BK104.out) k_ hk)); (case aO => exact (by (with_reducible repeat (first | apply Kd.R_alloc | apply Kd.R_drewN | apply Kd.R_drew)); exact HO_7.out)); (case aS => exact (below_size (by repeat (first | (with_reducible first | exact HB.out | apply below_alloc | apply pw_below_drewN | apply below_drew1 | refine below_set ?_ GE104.out) | exact HB.out)))); (case aL => have := LMc20.out; omega); intro v109 w27 ho hb hg hat; rw [← Ny108.out] at ho; have n0_ := Aside0.mk (blk_grown (g := gb104) (o := .cells #[.int .u64 ((rd_T29 l2 x29_1).f0), .int .u64 ((rd_T29 l2 x29_1).f1)] 29 (0, 0)) (by (with_reducible repeat (first | refine blk_drewN ?_ _ | refine blk_drew ?_ | refine blk_alloc ?_ _)); exact BK104.out) hg (Kd.R_away HO_7.out (fun _ hk => hk))); have n1_ := Aside0.mk (hb); have n2_ := Aside0.mk (ho); clear BK104; clear HB; clear HO_7; have BK104 := n0_; have HB := n1_; have HO110 := n2_; clear n0_ n1_ n2_; clear ho hb hg hat))
                            go_roundg k1
                            case measure => have := HK1.out; omega
                            case rel => exact ⟨(y108), (wrap64 (x29_1 + 1)), (by first | rfl | (simp; done) | (simp [*]; done)), H', ⟨by have := HK1.out; omega⟩, ⟨by (with_reducible repeat (first | apply Kd.R_alloc | apply Kd.R_drewN | apply Kd.R_drew)); exact Kd.R_mono HO110.out (fun _ hk => trivial)⟩, ⟨by repeat (first | (with_reducible first | exact HB.out | apply below_alloc | apply pw_below_drewN | apply below_drew1 | refine below_set ?_ GE104.out) | exact HB.out)⟩⟩
                          · rw [if_neg c20] at H
                            exact absurd H (by simp)
                      · rw [if_neg c9] at H
                        exact absurd H (by simp)
                    · rw [if_neg c8] at H
                      exact absurd H (by simp)
                  · rw [if_neg c6] at H
                    have c6b0 : decide (0 ≤ (wrap64 ((x7_1.length : Int) - 1))) = false := decide_eq_false c6
                    clear c6
                    by_cases c28 : x7_1.length < 8796093022208
                    · rw [if_pos c28] at H
                      have LMc28 := Aside0.mk c28
                      clear c28
                      obtain ⟨y111, hy111⟩ : ∃ y_ : List (S29), y_ = (x7_1 ++ [(⟨(rd_T29 l2 x29_1).f0, (rd_T29 l2 x29_1).f1⟩ : S29)]) := ⟨_, rfl⟩
                      replace H : (draw_merge.l0 k1 y111 l2 (l2.length : Int) (wrap64 (x29_1 + 1))) = some (r1, r2) := by first | (rw [hy111]; with_reducible exact H) | (have H2_ := (Option.bind_some _ _).symm.trans H; rw [hy111]; with_reducible exact H2_) | (have H2_ := (Option.bind_some _ _).symm.trans H; with_reducible exact H2_) | with_reducible exact H | (rw [hy111]; exact H) | exact H
                      have Ny111 := Aside0.mk hy111
                      clear hy111
                      have H' := Aside0.mk H
                      clear H
                      have p103 : 0 ≤ (x29_1 : Int) := of_decide_eq_true (by first | (with_reducible assumption) | assumption)
                      have q103 : x29_1 < (l2.length : Int) := of_decide_eq_true (by first | (with_reducible assumption) | assumption)
                      obtain ⟨ad103, e103, hx103_0, hx103_1⟩ := at_T29 HR1.out x29_1 p103 q103
                      cases e103
                      replace hx103_0 := (HB.out.cell (World.block_lt_of_cell? w4 _ hx103_0)).trans hx103_0
                      replace hx103_1 := (HB.out.cell (World.block_lt_of_cell? w4 _ hx103_1)).trans hx103_1
                      replace p103 := eq_true p103
                      replace q103 := eq_true q103
                      try go_wp2_with (first | ((with_reducible refine gate_dst (N := 9) rfl ?_); refine box_event ?hg (N := 9) ?hd (cs := #[.int .u64 0, .int .u64 0]) (t := 29) ?hr ?_; (case hd => rfl); (case hg => rfl); (case hr => first | (go_simp; done) | (go_simp; rfl)); intro gb104 hg w29 hbox hb; have n0_ := Aside0.mk (Kd.R_below (Kd.R_elderB (by (with_reducible repeat (first | apply Kd.R_alloc | apply Kd.R_drewN | apply Kd.R_drew)); exact HO_7.out) gb104 (Nat.le_of_eq hg.symm)) hb); have n1_ := Aside0.mk (below_step (by repeat (first | (with_reducible first | exact HB.out | apply below_alloc | apply pw_below_drewN | apply below_drew1) | exact HB.out)) hb); have n2_ := Aside0.mk (hbox); have n3_ := Aside0.mk ((by rw [hg]; exact (below_size (by repeat (first | (with_reducible first | exact HB.out | apply below_alloc | apply pw_below_drewN | apply below_drew1) | exact HB.out))) : w4.heap.size ≤ gb104)); have n4_ := Aside0.mk ((by rw [hg]; exact (below_size (by repeat (first | (with_reducible first | exact HB.out | apply below_alloc | apply pw_below_drewN | apply below_drew1) | exact HB.out))) : w4.heap.size ≤ gb104)); clear HO_7; clear HB; have HO_7 := n0_; have HB := n1_; have BK104 := n2_; have GW104 := n3_; have GE104 := n4_; clear n0_ n1_ n2_ n3_ n4_; clear hb hbox hg; have hcz30_0 : w29.cell? ⟨gb104, 0, none⟩ = some (.int .u64 0) := (blk_cell BK104.out 0).trans rfl; have hcz30_1 : w29.cell? ⟨gb104, 1, none⟩ = some (.int .u64 0) := (blk_cell BK104.out 1).trans rfl; have hfz30_0 := blk_frozen BK104.out 0; have hfz30_1 := blk_frozen BK104.out 1; obtain ⟨Ao31, co31, eo31⟩ := Kd.R_slice HO_7.out; subst eo31))
                      have n0_ : Aside0 (Kd.R k29 29 ((w29.setCell ⟨gb104, 0, none⟩ (.int .u64 ((rd_T29 l2 x29_1).f0))).setCell ⟨gb104, 1, none⟩ (.int .u64 ((rd_T29 l2 x29_1).f1))) w4.heap.size (fun k_ => k_ ≠ gb104) (.slice Ao31 x7_1.length co31) x7_1) := ⟨by (with_reducible repeat (first | apply Kd.R_alloc | apply Kd.R_drewN | apply Kd.R_drew)); exact Kd.R_mono (Kd.R_far (p := ⟨gb104, 1, none⟩) (Kd.R_far (p := ⟨gb104, 0, none⟩) (Kd.R_mono HO_7.out (fun k_ hk => (⟨hk, hk.2⟩ : _ ∧ k_ ≠ gb104))) (fun _ hk => hk.2) (.int .u64 ((rd_T29 l2 x29_1).f0))) (fun _ hk => hk.2) (.int .u64 ((rd_T29 l2 x29_1).f1))) (fun _ hk => hk.1.2)⟩
                      have n1_ : Aside0 (((w29.setCell ⟨gb104, 0, none⟩ (.int .u64 ((rd_T29 l2 x29_1).f0))).setCell ⟨gb104, 1, none⟩ (.int .u64 ((rd_T29 l2 x29_1).f1))).heap[gb104]? = some (.cells #[.int .u64 ((rd_T29 l2 x29_1).f0), .int .u64 ((rd_T29 l2 x29_1).f1)] 29 (0, 0))) := ⟨by (with_reducible repeat (first | refine blk_drewN ?_ _ | refine blk_drew ?_ | refine blk_alloc ?_ _)); refine blk_put (cs := #[.int .u64 ((rd_T29 l2 x29_1).f0), .int .u64 0]) ?_ 1 _ rfl; (with_reducible repeat (first | refine blk_drewN ?_ _ | refine blk_drew ?_ | refine blk_alloc ?_ _)); refine blk_put (cs := #[.int .u64 0, .int .u64 0]) ?_ 0 _ rfl; (with_reducible repeat (first | refine blk_drewN ?_ _ | refine blk_drew ?_ | refine blk_alloc ?_ _)); exact BK104.out⟩
                      have n2_ : Aside0 (Below w4.heap.size w4 ((w29.setCell ⟨gb104, 0, none⟩ (.int .u64 ((rd_T29 l2 x29_1).f0))).setCell ⟨gb104, 1, none⟩ (.int .u64 ((rd_T29 l2 x29_1).f1)))) := ⟨by repeat (first | (with_reducible first | exact HB.out | apply below_alloc | apply pw_below_drewN | apply below_drew1 | refine below_set ?_ GE104.out) | exact HB.out)⟩
                      (try clear HO_7)
                      (try clear BK104)
                      (try clear HB)
                      generalize ((w29.setCell ⟨gb104, 0, none⟩ (.int .u64 ((rd_T29 l2 x29_1).f0))).setCell ⟨gb104, 1, none⟩ (.int .u64 ((rd_T29 l2 x29_1).f1))) = w32 at n0_ n1_ n2_ ⊢
                      have HO_7 := n0_
                      have BK104 := n1_
                      have HB := n2_
                      clear n0_ n1_ n2_
                      have n0_ := Aside0.mk (Kd.R_drew HO_7.out)
                      have n1_ := Aside0.mk (blk_drew BK104.out)
                      have n2_ := Aside0.mk (below_drew1 HB.out)
                      clear HO_7
                      clear BK104
                      clear HB
                      have HO_7 := n0_
                      have BK104 := n1_
                      have HB := n2_
                      clear n0_ n1_ n2_
                      refine start_ (n := 12) (S := fun w' => True) (ds := []) #[false, false, false, false, false, false, false, false, false, false, false, false] (by kernel_rfl) rfl rfl trivial (fun hHeld => ?_); refine with_tabW draw_merge.tab14 draw_merge.bits14 (fun HT_ HW_ => ?_)
                      generalize w32.drew = w33 at HO_7 BK104 HB hHeld ⊢
                      refine pure_ (i := 0) (N := some 36) (v := ?_) (a' := ?_) #[true, false, false, false, false, false, false, false, false, false, false, false] rfl rfl (any_of HT_.out (by kernel_rfl)) (fun _ _ _ h => h) (Or.inl ⟨by rfl, ?_⟩) ?_ ?_
                      rotate_left
                      · intro w'
                        go_simp
                        with_reducible rfl
                      rotate_left
                      · simp only [Act.put, List.setIfInBounds_toArray, List.set_cons_zero, List.set_cons_succ, i64_w, i32_w]
                        rfl
                      refine pure_ (i := 1) (N := some 37) (v := ?_) (a' := ?_) #[true, true, false, false, false, false, false, false, false, false, false, false] rfl rfl (any_of HT_.out (by kernel_rfl)) (fun _ _ _ h => h) (Or.inl ⟨by rfl, ?_⟩) ?_ ?_
                      rotate_left
                      · intro w'
                        go_simp
                        with_reducible rfl
                      rotate_left
                      · simp only [Act.put, List.setIfInBounds_toArray, List.set_cons_zero, List.set_cons_succ, i64_w, i32_w]
                        rfl
                      refine pure_ (i := 2) (N := some 38) (v := ?_) (a' := ?_) #[true, true, true, false, false, false, false, false, false, false, false, false] rfl rfl (any_of HT_.out (by kernel_rfl)) (fun _ _ _ h => h) (Or.inl ⟨by rfl, ?_⟩) ?_ ?_
                      rotate_left
                      · intro w'
                        go_simp
                        with_reducible rfl
                      rotate_left
                      · simp only [Act.put, List.setIfInBounds_toArray, List.set_cons_zero, List.set_cons_succ, i64_w, i32_w]
                        rfl
                      refine pure_ (i := 3) (N := some 39) (v := undef) (a' := ?_) #[true, true, true, true, false, false, false, false, false, false, false, false] rfl rfl (any_of HT_.out (by kernel_rfl)) (fun _ _ _ h => h) (Or.inr ⟨by rfl, rfl⟩) ?_ ?_
                      rotate_left
                      · simp only [Act.put, List.setIfInBounds_toArray, List.set_cons_zero, List.set_cons_succ, i64_w, i32_w]
                        rfl
                      refine pure_ (i := 4) (N := some 40) (v := undef) (a' := ?_) #[true, true, true, true, true, false, false, false, false, false, false, false] rfl rfl (any_of HT_.out (by kernel_rfl)) (fun _ _ _ h => h) (Or.inr ⟨by rfl, rfl⟩) ?_ ?_
                      rotate_left
                      · simp only [Act.put, List.setIfInBounds_toArray, List.set_cons_zero, List.set_cons_succ, i64_w, i32_w]
                        rfl
                      refine pure_ (i := 5) (N := some 41) (v := undef) (a' := ?_) #[true, true, true, true, true, true, false, false, false, false, false, false] rfl rfl (any_of HT_.out (by kernel_rfl)) (fun _ _ _ h => h) (Or.inr ⟨by rfl, rfl⟩) ?_ ?_
                      rotate_left
                      · simp only [Act.put, List.setIfInBounds_toArray, List.set_cons_zero, List.set_cons_succ, i64_w, i32_w]
                        rfl
                      refine pure_ (i := 6) (N := some 42) (v := undef) (a' := ?_) #[true, true, true, true, true, true, true, false, false, false, false, false] rfl rfl (any_of HT_.out (by kernel_rfl)) (fun _ _ _ h => h) (Or.inr ⟨by rfl, rfl⟩) ?_ ?_
                      rotate_left
                      · simp only [Act.put, List.setIfInBounds_toArray, List.set_cons_zero, List.set_cons_succ, i64_w, i32_w]
                        rfl
                      refine pure_ (i := 7) (N := some 43) (v := undef) (a' := ?_) #[true, true, true, true, true, true, true, true, false, false, false, false] rfl rfl (any_of HT_.out (by kernel_rfl)) (fun _ _ _ h => h) (Or.inr ⟨by rfl, rfl⟩) ?_ ?_
                      rotate_left
                      · simp only [Act.put, List.setIfInBounds_toArray, List.set_cons_zero, List.set_cons_succ, i64_w, i32_w]
                        rfl
                      refine pure_ (i := 8) (N := some 44) (v := undef) (a' := ?_) #[true, true, true, true, true, true, true, true, true, false, false, false] rfl rfl (any_of HT_.out (by kernel_rfl)) (fun _ _ _ h => h) (Or.inr ⟨by rfl, rfl⟩) ?_ ?_
                      rotate_left
                      · simp only [Act.put, List.setIfInBounds_toArray, List.set_cons_zero, List.set_cons_succ, i64_w, i32_w]
                        rfl
                      refine pure_ (i := 9) (N := some 45) (v := undef) (a' := ?_) #[true, true, true, true, true, true, true, true, true, true, false, false] rfl rfl (any_of HT_.out (by kernel_rfl)) (fun _ _ _ h => h) (Or.inr ⟨by rfl, rfl⟩) ?_ ?_
                      rotate_left
                      · simp only [Act.put, List.setIfInBounds_toArray, List.set_cons_zero, List.set_cons_succ, i64_w, i32_w]
                        rfl
                      refine pure_ (i := 10) (N := some 46) (v := undef) (a' := ?_) #[true, true, true, true, true, true, true, true, true, true, true, false] rfl rfl (any_of HT_.out (by kernel_rfl)) (fun _ _ _ h => h) (Or.inr ⟨by rfl, rfl⟩) ?_ ?_
                      rotate_left
                      · simp only [Act.put, List.setIfInBounds_toArray, List.set_cons_zero, List.set_cons_succ, i64_w, i32_w]
                        rfl
                      refine pure_ (i := 11) (N := some 47) (v := ?_) (a' := ?_) #[true, true, true, true, true, true, true, true, true, true, true, true] rfl rfl (any_of HT_.out (by kernel_rfl)) (fun _ _ _ h => h) (Or.inl ⟨by rfl, ?_⟩) ?_ ?_
                      rotate_left
                      · intro w'
                        go_simp
                        with_reducible rfl
                      rotate_left
                      · simp only [Act.put, List.setIfInBounds_toArray, List.set_cons_zero, List.set_cons_succ, i64_w, i32_w]
                        rfl
                      refine done_ (done_of HT_.out (by kernel_rfl)) ?_
                      have hcz34_0 : w33.cell? ⟨gb104, 0, none⟩ = some (.int .u64 ((rd_T29 l2 x29_1).f0)) := (blk_cell BK104.out 0).trans rfl
                      have hcz34_1 : w33.cell? ⟨gb104, 1, none⟩ = some (.int .u64 ((rd_T29 l2 x29_1).f1)) := (blk_cell BK104.out 1).trans rfl
                      have hfz34_0 := blk_frozen BK104.out 0
                      have hfz34_1 := blk_frozen BK104.out 1
                      try go_wp2_with (first | ((with_reducible refine gate_builtin (b := .append) (xs := #[.tmp 60, .tmp 62]) rfl ?_); at_builtin; refine Kd.R_append k29 (w0 := w4) w4.heap.size rfl (.tmp 60) (.tmp 62) 36 29 (.agg #[(.int .u64 0), (.int .u64 0)]) 16 rfl Try.underlying36 info29 rfl (by decide) (by omega) (.slice Ao31 x7_1.length co31) x7_1 (⟨(rd_T29 l2 x29_1).f0, (rd_T29 l2 x29_1).f1⟩ : S29) [.int .u64 ((rd_T29 l2 x29_1).f0), .int .u64 ((rd_T29 l2 x29_1).f1)] (fun k_ => k_ ≠ gb104) (fun _ => False) rfl rfl ?aP (fun _ hk => hk.elim) ?aF ?aO ?aB ?aS ?aL ?_; (case aP => exact k29_mkM _ _ _ (⟨(rd_T29 l2 x29_1).f0, (rd_T29 l2 x29_1).f1⟩ : S29)); (case aB => exact (by repeat (first | (with_reducible first | exact HB.out | apply below_alloc | apply pw_below_drewN | apply below_drew1 | refine below_set ?_ GE104.out) | exact HB.out))); (case aF => exact (fun k_ hk => Kd.freshB (g := gb104) (o := .cells #[.int .u64 ((rd_T29 l2 x29_1).f0), .int .u64 ((rd_T29 l2 x29_1).f1)] 29 (0, 0)) (by (with_reducible repeat (first | refine blk_drewN ?_ _ | refine blk_drew ?_ | refine blk_alloc ?_ _)); exact BK104.out) k_ hk)); (case aO => exact (by (with_reducible repeat (first | apply Kd.R_alloc | apply Kd.R_drewN | apply Kd.R_drew)); exact HO_7.out)); (case aS => exact (below_size (by repeat (first | (with_reducible first | exact HB.out | apply below_alloc | apply pw_below_drewN | apply below_drew1 | refine below_set ?_ GE104.out) | exact HB.out)))); (case aL => have := LMc28.out; omega); intro v112 w35 ho hb hg hat; rw [← Ny111.out] at ho; have n0_ := Aside0.mk (blk_grown (g := gb104) (o := .cells #[.int .u64 ((rd_T29 l2 x29_1).f0), .int .u64 ((rd_T29 l2 x29_1).f1)] 29 (0, 0)) (by (with_reducible repeat (first | refine blk_drewN ?_ _ | refine blk_drew ?_ | refine blk_alloc ?_ _)); exact BK104.out) hg (Kd.R_away HO_7.out (fun _ hk => hk))); have n1_ := Aside0.mk (hb); have n2_ := Aside0.mk (ho); clear BK104; clear HB; clear HO_7; have BK104 := n0_; have HB := n1_; have HO113 := n2_; clear n0_ n1_ n2_; clear ho hb hg hat))
                      go_roundg k1
                      case measure => have := HK1.out; omega
                      case rel => exact ⟨(y111), (wrap64 (x29_1 + 1)), (by first | rfl | (simp; done) | (simp [*]; done)), H', ⟨by have := HK1.out; omega⟩, ⟨by (with_reducible repeat (first | apply Kd.R_alloc | apply Kd.R_drewN | apply Kd.R_drew)); exact Kd.R_mono HO113.out (fun _ hk => trivial)⟩, ⟨by repeat (first | (with_reducible first | exact HB.out | apply below_alloc | apply pw_below_drewN | apply below_drew1 | refine below_set ?_ GE104.out) | exact HB.out)⟩⟩
                    · rw [if_neg c28] at H
                      exact absurd H (by simp)
                · rw [if_neg c5] at H
                  exact absurd H (by simp)
              · rw [if_neg c4] at H
                exact absurd H (by simp)
            · rw [if_neg c3] at H
              have c3b0 : decide (x29_1 < (l2.length : Int)) = false := decide_eq_false c3
              clear c3
              simp only [Option.some.injEq, Prod.mk.injEq] at H
              obtain ⟨rfl, rfl⟩ := H
              go_wp2
              (try rw [Exit.noGoto_ret])
              go_ret2
              exact ⟨_, by first | rfl | (simp [errW_none, errW_some] <;> rfl) | (simp [*, errW_none, errW_some] <;> rfl), Kd.R_lower (w := _) (base := w4.heap.size) (by (with_reducible repeat (first | apply Kd.R_alloc | apply Kd.R_drewN | apply Kd.R_drew)); exact HO_7.out) HB4.out.size, HB4.out.trans (Below.mono (B := w4.heap.size) (by repeat (first | (with_reducible first | exact HB.out | apply below_alloc | apply pw_below_drewN | apply below_drew1) | exact HB.out)) HB4.out.size)⟩
    · have cd : decide ((2048 : Int) < (l1.length : Int)) = true := decide_eq_true (by omega)
      rw [draw_whole.f, if_pos ch, if_neg cl] at h
      simp only [Option.some.injEq, Prod.mk.injEq] at h
      obtain ⟨rfl, rfl⟩ := h
      clear hr1
      go_enter Try.func37, Try.ntmps37
      go_wp2
      go_step3
      go_wp2_with (first | (go_at_call 27; (with_reducible refine (hhi _ rfl).mono ?_); rintro e w1 ⟨rfl, HR1, HX1, HB1, HS1⟩))
      (try rw [Exit.noGoto_ret])
      go_ret2
      exact ⟨_, rfl, Kd.R_nil _ _ _ _ _, HB1.out⟩
  · have hh : draw_high.f a0 = some false := by
      unfold draw_high.f
      by_cases c0 : a0 ≥ 0
      · rw [if_pos c0]; congr 1; exact decide_eq_false (by omega)
      · rw [if_neg c0]
    have hhi := hhigh false hh
    clear hhigh
    rw [draw_whole.f, if_neg ch] at h
    simp only [Option.some.injEq, Prod.mk.injEq] at h
    obtain ⟨rfl, rfl⟩ := h
    clear hr1
    go_enter Try.func37, Try.ntmps37
    go_wp2
    go_step3
    go_wp2_with (first | (go_at_call 27; (with_reducible refine (hhi _ rfl).mono ?_); rintro e w1 ⟨rfl, HR1, HX1, HB1, HS1⟩))
    (try rw [Exit.noGoto_ret])
    go_ret2
    exact ⟨_, rfl, Kd.R_nil _ _ _ _ _, HB1.out⟩
end Go.Proofs.Ytaeaacdjiijooaa.Pr
