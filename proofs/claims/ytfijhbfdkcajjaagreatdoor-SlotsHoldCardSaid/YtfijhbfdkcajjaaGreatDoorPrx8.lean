import Derived.Test.YtfijhbfdkcajjaaGreatDoorPrx0
import Derived.Test.YtfijhbfdkcajjaaGreatDoorPrx5
import Derived.Test.YtfijhbfdkcajjaaGreatDoorPrx7
import Derived.Test.YtfijhbfdkcajjaaGreatDoorMay
import Derived.Test.YtfijhbfdkcajjaaGreatDoorPPad
-- Written by wip/tools/myprint.py (a print of the translation, turned). Not trusted: Lean checks it.
namespace Go.Proofs.YtfijhbfdkcajjaaGreatDoor.Pr
open Go.RowKit Go.Proofs.YtfijhbfdkcajjaaGreatDoorW.PrintWords Go.Proofs.YtfijhbfdkcajjaaGreatDoorW.PrintLast Go.Proofs.YtfijhbfdkcajjaaGreatDoorW.PrintMore
attribute [local go_sem] max2_int min2_int max_two min_two max_three min_three max_four min_four   -- for this text's walks alone
set_option linter.unusedVariables false
set_option linter.unusedSimpArgs false

/-! ### slots_Leaves: function 20 -/
mutual
def slots_Leaves.l0 : Nat → ByteArray → List (S41) → List (S55) → Int → Int → Option ((List (S55)) × Int)
 | 0, _, _, _, _, _ => none
 | k + 1, x0, x2, x8, x29, x30 => if x30 < x29 then ((tag_Pad.f x0 (IntKind.u64.wrap (x30))).bind fun bt129 => (if 0 ≤ x30 then (if x30 < (x8.length : Int) then (slots_Leaves.l0 k x0 x2 (x8.set (x30 : Int).toNat (⟨bt129.1, bt129.2.1, bt129.2.2.1, (⟨bt129.2.2.2.1, bt129.2.2.2.2⟩ : S39)⟩ : S55)) x29 (wrap64 (x30 + 1))) else (none)) else (none))) else (slots_Leaves.l1 k x8 x2 (x2.length : Int) 0)
def slots_Leaves.l1 : Nat → List (S55) → List (S41) → Int → Int → Option ((List (S55)) × Int)
 | 0, _, _, _, _ => none
 | k + 1, x8, x41, x42, x43 => if x43 < x42 then (if 0 ≤ x43 then (if x43 < (x41.length : Int) then ((slots_Leaf.f ((rd_T41 x41 x43).f0) ((rd_T41 x41 x43).f1.f0) ((rd_T41 x41 x43).f1.f1) ((rd_T41 x41 x43).f2) ((rd_T41 x41 x43).f3)).bind fun bt137 => (if 0 ≤ ((rd_T41 x41 x43).f3) then (if ((rd_T41 x41 x43).f3) < (x8.length : Int) then (slots_Leaves.l1 k (x8.set (((rd_T41 x41 x43).f3) : Int).toNat (⟨bt137.1, bt137.2.1, bt137.2.2.1, (⟨bt137.2.2.2.1, bt137.2.2.2.2⟩ : S39)⟩ : S55)) x41 x42 (wrap64 (x43 + 1))) else (none)) else (none))) else (none)) else (none)) else (some (x8, 0))
end
def slots_Leaves.f (k : Nat) (a0 : ByteArray) (a1 : Int) (l2 : List (S41)) : Option ((List (S55)) × Int) := (slots_high.f a1).bind fun t124 => (if t124 = true then (if (a0.size : Int) > 64 then (some (([] : List (S55)), 3)) else ((slots_May.f l2 a1).bind fun t125 => (if t125 = true then (if 0 ≤ a1 then (if 0 ≤ (shl .i64 1 a1) then (if (shl .i64 1 a1 : Int).toNat ≤ 5026338869833 then ((some (List.replicate (shl .i64 1 a1 : Int).toNat z55 : List (S55))).bind fun y126 => (slots_Leaves.l0 k a0 l2 y126 (y126.length : Int) 0)) else (none)) else (none)) else (none)) else (some (([] : List (S55)), 2))))) else (some (([] : List (S55)), 120)))
theorem slots_Leaves.mono_l : ∀ k, (∀ y0 y1 y2 y3 y4, LeO (slots_Leaves.l0 k y0 y1 y2 y3 y4) (slots_Leaves.l0 (k + 1) y0 y1 y2 y3 y4)) ∧ (∀ y0 y1 y2 y3, LeO (slots_Leaves.l1 k y0 y1 y2 y3) (slots_Leaves.l1 (k + 1) y0 y1 y2 y3))
 | 0 => ⟨fun _ _ _ _ _ r h => by simp [slots_Leaves.l0] at h, fun _ _ _ _ r h => by simp [slots_Leaves.l1] at h⟩
 | k + 1 => by
  obtain ⟨ih0, ih1⟩ := slots_Leaves.mono_l k
  refine ⟨?_, ?_⟩
  ·intro y0 y1 y2 y3 y4
   unfold slots_Leaves.l0
   repeat' first
   | (with_reducible exact ih0 _ _ _ _ _)
   | (with_reducible exact ih1 _ _ _ _)
   | (with_reducible exact LeO.refl _)
   | (with_reducible exact LeO.none _)
   | (with_reducible refine LeO.ite ?_ ?_)
   | (with_reducible refine LeO.bind ?_ (fun _ => ?_))
   | exact ih0 _ _ _ _ _
   | exact ih1 _ _ _ _
   | exact LeO.none _
   | refine LeO.ite ?_ ?_
   | refine LeO.bind ?_ (fun _ => ?_)
  ·intro y0 y1 y2 y3
   unfold slots_Leaves.l1
   repeat' first
   | (with_reducible exact ih0 _ _ _ _ _)
   | (with_reducible exact ih1 _ _ _ _)
   | (with_reducible exact LeO.refl _)
   | (with_reducible exact LeO.none _)
   | (with_reducible refine LeO.ite ?_ ?_)
   | (with_reducible refine LeO.bind ?_ (fun _ => ?_))
   | exact ih0 _ _ _ _ _
   | exact ih1 _ _ _ _
   | exact LeO.none _
   | refine LeO.ite ?_ ?_
   | refine LeO.bind ?_ (fun _ => ?_)
theorem slots_Leaves.mono : ∀ a0 a1 a2 k, LeO (slots_Leaves.f k a0 a1 a2) (slots_Leaves.f (k + 1) a0 a1 a2) := by
 intro a0 a1 a2 k
 obtain ⟨ih0, ih1⟩ := slots_Leaves.mono_l k
 unfold slots_Leaves.f
 repeat' first
  | (with_reducible exact ih0 _ _ _ _ _)
  | (with_reducible exact ih1 _ _ _ _)
  | (with_reducible exact LeO.refl _)
  | (with_reducible exact LeO.none _)
  | (with_reducible refine LeO.ite ?_ ?_)
  | (with_reducible refine LeO.bind ?_ (fun _ => ?_))
  | exact ih0 _ _ _ _ _
  | exact ih1 _ _ _ _
  | exact LeO.none _
  | refine LeO.ite ?_ ?_
  | refine LeO.bind ?_ (fun _ => ?_)
set_option maxHeartbeats 8000000 in
set_option maxRecDepth 100000 in
theorem slots_Leaves.calls (k : Nat) (a0 : ByteArray) (a1 : Int) (A2 : Option Addr) (c2 : Nat) (l2 : List (S41)) (r1 : List (S55)) (r2 : Int) (w : World) (hGT : GTab w) (hr2 : Kd.C k41 w A2 l2.length l2) (hc2 : l2.length ≤ c2) (h : slots_Leaves.f k a0 a1 l2 = some (r1, r2)) :
 Calls Tryz.prog 20 #[.string a0, .int .i64 a1, .slice A2 l2.length c2] w fun e w' => ∃ v0_ : Value, e = .returned (.tuple #[v0_, .int .i64 r2]) ∧ Kd.R k55 55 w' w.heap.size (fun _ => True) v0_ r1 ∧ Below w.heap.size w w' := by
 have hu55 := Tryz.underlying55
 have hu41 := Tryz.underlying41
 have HR2 := Aside0.mk hr2
 have HC2 := Aside0.mk hc2
 clear hr2 hc2
 have HB := Aside0.mk (Below.refl w.heap.size w)
 have HG := Aside0.mk hGT
 clear hGT
 have H : ((slots_high.f a1).bind fun t124 => (if t124 = true then (if (a0.size : Int) > 64 then (some (([] : List (S55)), 3)) else ((slots_May.f l2 a1).bind fun t125 => (if t125 = true then (if 0 ≤ a1 then (if 0 ≤ (shl .i64 1 a1) then (if (shl .i64 1 a1 : Int).toNat ≤ 5026338869833 then ((some (List.replicate (shl .i64 1 a1 : Int).toNat z55 : List (S55))).bind fun y126 => (slots_Leaves.l0 k a0 l2 y126 (y126.length : Int) 0)) else (none)) else (none)) else (none)) else (some (([] : List (S55)), 2))))) else (some (([] : List (S55)), 120)))) = some (r1, r2) := h
 clear h
 replace H := Option.bind_eq_some_iff.mp H
 obtain ⟨t124, A40, H⟩ := H
 replace H : (if t124 = true then (if (a0.size : Int) > 64 then (some (([] : List (S55)), 3)) else ((slots_May.f l2 a1).bind fun t125 => (if t125 = true then (if 0 ≤ a1 then (if 0 ≤ (shl .i64 1 a1) then (if (shl .i64 1 a1 : Int).toNat ≤ 5026338869833 then ((some (List.replicate (shl .i64 1 a1 : Int).toNat z55 : List (S55))).bind fun y126 => (slots_Leaves.l0 k a0 l2 y126 (y126.length : Int) 0)) else (none)) else (none)) else (none)) else (some (([] : List (S55)), 2))))) else (some (([] : List (S55)), 120))) = some (r1, r2) := H
 have A4 := Aside0.mk A40
 clear A40
 by_cases c5 : t124 = true
 ·subst c5
  have H1 : (if (a0.size : Int) > 64 then (some (([] : List (S55)), 3)) else ((slots_May.f l2 a1).bind fun t125 => (if t125 = true then (if 0 ≤ a1 then (if 0 ≤ (shl .i64 1 a1) then (if (shl .i64 1 a1 : Int).toNat ≤ 5026338869833 then ((some (List.replicate (shl .i64 1 a1 : Int).toNat z55 : List (S55))).bind fun y126 => (slots_Leaves.l0 k a0 l2 y126 (y126.length : Int) 0)) else (none)) else (none)) else (none)) else (some (([] : List (S55)), 2))))) = some (r1, r2) := by rw [if_pos rfl] at H; exact H
  clear H
  have H := H1
  clear H1
  by_cases c6 : (a0.size : Int) > 64
  ·rw [if_pos c6] at H
   have c6b0 : decide (64 < (a0.size : Int)) = true := decide_eq_true c6
   have c6b1 : decide (64 < a0.size) = true := decide_eq_true (by omega)
   clear c6
   simp only [Option.some.injEq, Prod.mk.injEq] at H
   obtain ⟨rfl, rfl⟩ := H
   go_enter Tryz.func20, Tryz.ntmps20
   go_wp2_with (first | ((with_reducible refine gate_callee (f := 25) rfl ?_); refine goesL_ (some 14) rfl rfl Tryz.func25 (by kernel_rfl) rfl #[.int .i64 a1] rfl (by (try simp only [List.map_toArray, List.map_cons, List.map_nil]); first | done | rfl | (simp only [List.length_drop, List.length_take]; rfl)) ?_; (with_reducible refine (slots_high.calls a1 true _ A4.out).mono ?_); rintro e w' ⟨rfl, ⟨nd, rfl⟩⟩; refine ⟨_, rfl, ?_⟩))
   go_ret2
   exact ⟨_, by first | rfl | (simp [errW_none, errW_some] <;> rfl) | (simp [*, errW_none, errW_some] <;> rfl), by first | exact Kd.R_nil _ _ _ _ _ | exact Kd.N_nil _ _ _ _ _ | exact Kd.V_nil _ _ _ _ _ | exact Kd.Q_nil _ _ _ _ _ | exact Kd.S_nil _ _ _ _ _, by repeat (first | (with_reducible first | exact HB.out | apply below_alloc | apply pw_below_drewN | apply below_drew1) | exact HB.out)⟩
  ·rw [if_neg c6] at H
   have c6b0 : decide (64 < (a0.size : Int)) = false := decide_eq_false c6
   have c6b1 : decide (64 < a0.size) = false := decide_eq_false (by omega)
   clear c6
   replace H := Option.bind_eq_some_iff.mp H
   obtain ⟨t125, A70, H⟩ := H
   replace H : (if t125 = true then (if 0 ≤ a1 then (if 0 ≤ (shl .i64 1 a1) then (if (shl .i64 1 a1 : Int).toNat ≤ 5026338869833 then ((some (List.replicate (shl .i64 1 a1 : Int).toNat z55 : List (S55))).bind fun y126 => (slots_Leaves.l0 k a0 l2 y126 (y126.length : Int) 0)) else (none)) else (none)) else (none)) else (some (([] : List (S55)), 2))) = some (r1, r2) := H
   have A7 := Aside0.mk A70
   clear A70
   by_cases c8 : t125 = true
   ·subst c8
    have H1 : (if 0 ≤ a1 then (if 0 ≤ (shl .i64 1 a1) then (if (shl .i64 1 a1 : Int).toNat ≤ 5026338869833 then ((some (List.replicate (shl .i64 1 a1 : Int).toNat z55 : List (S55))).bind fun y126 => (slots_Leaves.l0 k a0 l2 y126 (y126.length : Int) 0)) else (none)) else (none)) else (none)) = some (r1, r2) := by rw [if_pos rfl] at H; exact H
    clear H
    have H := H1
    clear H1
    by_cases c9 : 0 ≤ a1
    ·rw [if_pos c9] at H
     have c9b0 := eq_true c9
     have c9b1 : decide (0 ≤ a1) = true := decide_eq_true c9
     clear c9
     obtain ⟨ji10, hji10⟩ : ∃ j_ : Int, (shl .i64 1 a1) = j_ := ⟨_, rfl⟩
     replace H : (if 0 ≤ (ji10) then (if (ji10 : Int).toNat ≤ 5026338869833 then ((some (List.replicate (ji10 : Int).toNat z55 : List (S55))).bind fun y126 => (slots_Leaves.l0 k a0 l2 y126 (y126.length : Int) 0)) else (none)) else (none)) = some (r1, r2) := by first | (rw [hji10] at H; exact H) | (simp only [hji10] at H ⊢; exact H)
     (try rw [hji10] at A4)
     (try rw [hji10] at A7)
     have hji10_ : (IntKind.i64.wrap (1 * 2 ^ min a1.toNat 64)) = ji10 := hji10
     have hji10z : a1 ≤ 64 → (IntKind.i64.wrap (1 * 2 ^ a1.toNat)) = ji10 := shl_small hji10
     have hji10u : (IntKind.i64.wrap (2 ^ min a1.toNat 64)) = ji10 := by have h_ := hji10_; rw [Int.one_mul] at h_; exact h_
     have hji10v : a1 ≤ 64 → (IntKind.i64.wrap (2 ^ a1.toNat)) = ji10 := fun hle_ => by have h_ := hji10z hle_; rw [Int.one_mul] at h_; exact h_
     have hji10y : (wrap64 (1 * 2 ^ min a1.toNat 64)) = ji10 := (i64_w _).symm.trans hji10_
     have hji10x : a1 ≤ 64 → (wrap64 (1 * 2 ^ a1.toNat)) = ji10 := fun h_ => (i64_w _).symm.trans (hji10z h_)
     by_cases c11 : 0 ≤ (ji10)
     ·rw [if_pos c11] at H
      have c11b0 := eq_true c11
      have c11b1 : decide (0 ≤ (ji10)) = true := decide_eq_true c11
      clear c11
      by_cases c12 : (ji10 : Int).toNat ≤ 5026338869833
      ·rw [if_pos c12] at H
       have c12b0 := eq_true c12
       have c12b1 : decide ((ji10 : Int).toNat ≤ 5026338869833) = true := decide_eq_true c12
       clear c12
       obtain ⟨y126, hy126⟩ : ∃ y_ : List (S55), y_ = (List.replicate (ji10 : Int).toNat z55) := ⟨_, rfl⟩
       replace H : (slots_Leaves.l0 k a0 l2 y126 (y126.length : Int) 0) = some (r1, r2) := by first | (rw [hy126]; with_reducible exact H) | (have H2_ := (Option.bind_some _ _).symm.trans H; rw [hy126]; with_reducible exact H2_) | (have H2_ := (Option.bind_some _ _).symm.trans H; with_reducible exact H2_) | with_reducible exact H | (rw [hy126]; exact H) | exact H
       have Ny126 := Aside0.mk hy126
       clear hy126
       have H' := Aside0.mk H
       clear H
       go_enter Tryz.func20, Tryz.ntmps20
       go_wp2_with (first | ((with_reducible refine gate_callee (f := 25) rfl ?_); refine goesL_ (some 14) rfl rfl Tryz.func25 (by kernel_rfl) rfl #[.int .i64 a1] rfl (by (try simp only [List.map_toArray, List.map_cons, List.map_nil]); first | done | rfl | (simp only [List.length_drop, List.length_take]; rfl)) ?_; (with_reducible refine (slots_high.calls a1 true _ A4.out).mono ?_); rintro e w' ⟨rfl, ⟨nd, rfl⟩⟩; refine ⟨_, rfl, ?_⟩) | ((with_reducible refine gate_callee (f := 15) rfl ?_); refine goesL_ (some 23) rfl rfl Tryz.func15 (by kernel_rfl) rfl #[.slice A2 l2.length c2, .int .i64 a1] rfl (by (try simp only [List.map_toArray, List.map_cons, List.map_nil]); first | done | rfl | (simp only [List.length_drop, List.length_take]; rfl)) ?_; (with_reducible refine (slots_May.calls _ _ l2 a1 true _ ?side3 ?side1 ?side2 A7.out).mono ?_); (case side1 => repeat (first | exact HR2.out | (with_reducible refine Kd.C_alloc ?_ _) | (with_reducible refine Kd.C_drewN ?_ _) | (with_reducible refine Kd.C_drew ?_))); (case side2 => exact HC2.out); (case side3 => first | exact HG.out | exact GTab.below (w := w) HG.out (by repeat (first | (with_reducible first | exact HB.out | apply below_alloc | apply pw_below_drewN | apply below_drew1) | exact HB.out))); rintro e w13 ⟨rfl, hb⟩; refine ⟨_, rfl, ?_⟩; have n0_ := Aside0.mk (below_step (by repeat (first | (with_reducible first | exact HB.out | apply below_alloc | apply pw_below_drewN | apply below_drew1) | exact HB.out)) hb); clear HB; have HB := n0_; clear n0_; (try clear hb); (try clear hb2); (try clear hk); (try clear hi)) | ((with_reducible refine gate_dst (N := 27) rfl ?_); refine Kd.R_make k55 _ 55 rfl (N := 27) rfl 49 _ _ rfl ji10 rfl rfl Tryz.underlying49 (.agg #[(.bool false), (.string ⟨#[]⟩), (.string ⟨#[]⟩), (.int .u64 0), (.int .u64 0)]) 56 info55 rfl (by decide) (by omega) z55 (ok := fun _ => True) (okp := fun _ => True) (k55_mkM _ _ _ z55 ) (fun _ hk => hk) trivial (of_decide_eq_true (by first | (with_reducible assumption) | assumption)) (Nat.le_trans (Nat.mul_le_mul_right _ (of_decide_eq_true (by first | (with_reducible assumption) | assumption) : ji10.toNat ≤ 5026338869833)) (by omega)) (Below.refl _ _) (Nat.le_refl _) ?_; intro v127 w14 ho15 hb hg_ hnew_; clear hg_ hnew_; (first | rw [← Ny126.out] at ho15 | (simp only [Int.reduceToNat] at ho15; rw [← Ny126.out] at ho15)); have n0_ := Aside0.mk (Kd.R_lower ho15 (below_size (by repeat (first | (with_reducible first | exact HB.out | apply below_alloc | apply pw_below_drewN | apply below_drew1) | exact HB.out)))); have n1_ := Aside0.mk (below_step (by repeat (first | (with_reducible first | exact HB.out | apply below_alloc | apply pw_below_drewN | apply below_drew1) | exact HB.out)) hb); clear HB; have HO128 := n0_; have HB := n1_; clear n0_ n1_; clear hb ho15; obtain ⟨Ao16, co16, eo16⟩ := Kd.R_slice HO128.out; subst eo16))
       go_loopg [30] k (fun kq v30 w' => ∃ (x8_1 : List (S55)) (x30_1 : Int), v30 = .int .i64 x30_1 ∧ Aside0 (slots_Leaves.l0 kq a0 l2 x8_1 (y126.length : Int) x30_1 = some (r1, r2)) ∧ Aside0 (kq ≤ k) ∧ Aside0 (Kd.R k55 55 w' w.heap.size (fun _ => True) (.slice Ao16 y126.length co16) x8_1) ∧ Aside0 (Below w.heap.size w w'))
       case atStart => exact ⟨(y126), (0), (by first | rfl | (simp; done) | (simp [*]; done)), H', ⟨Nat.le_refl _⟩, ⟨by (with_reducible repeat (first | apply Kd.R_alloc | apply Kd.R_drewN | apply Kd.R_drew)); exact HO128.out⟩, ⟨by repeat (first | (with_reducible first | exact HB.out | apply below_alloc | apply pw_below_drewN | apply below_drew1) | exact HB.out)⟩⟩
       case round =>
        clear H'
        try clear c1
        try clear c2
        try clear p2
        try clear c5
        try clear c6
        try clear c6b0
        try clear c6b1
        try clear p6
        try clear c8
        try clear c9
        try clear c9b0
        try clear c9b1
        try clear c11
        try clear c11b0
        try clear c11b1
        try clear c12
        try clear c12b0
        try clear c12b1
        try clear c15
        obtain ⟨x8_1, x30_1, rfl, HA, HK1, HO_8, HB⟩ := hrel
        have hl8_1 := (Kd.R_reads' HO_8.out).1
        rw [hl8_1] at HO_8
        (try simp only [hl8_1])
        cases gk with
        | zero => exact absurd HA.out (by simp [slots_Leaves.l0])
        | succ k1 =>
         have H := HA.out
         clear HA
         simp only [slots_Leaves.l0] at H
         by_cases c17 : x30_1 < (y126.length : Int)
         ·rw [if_pos c17] at H
          have c17b0 : decide (x30_1 < (y126.length : Int)) = true := decide_eq_true c17
          clear c17
          replace H := Option.bind_eq_some_iff.mp H
          obtain ⟨⟨t129, t130, t131, t132, t133⟩, A180, H⟩ := H
          replace H : (if 0 ≤ x30_1 then (if x30_1 < (x8_1.length : Int) then (slots_Leaves.l0 k1 a0 l2 (x8_1.set (x30_1 : Int).toNat (⟨t129, t130, t131, (⟨t132, t133⟩ : S39)⟩ : S55)) (y126.length : Int) (wrap64 (x30_1 + 1))) else (none)) else (none)) = some (r1, r2) := H
          have A18 := Aside0.mk A180
          clear A180
          by_cases c19 : 0 ≤ x30_1
          ·rw [if_pos c19] at H
           have c19b0 : decide (0 ≤ x30_1) = true := decide_eq_true c19
           clear c19
           by_cases c20 : x30_1 < (x8_1.length : Int)
           ·rw [if_pos c20] at H
            have c20b0 : decide (x30_1 < (x8_1.length : Int)) = true := decide_eq_true c20
            clear c20
            obtain ⟨y134, hy134⟩ : ∃ y_ : List (S55), y_ = (x8_1.set (x30_1 : Int).toNat (⟨t129, t130, t131, (⟨t132, t133⟩ : S39)⟩ : S55)) := ⟨_, rfl⟩
            replace H : (slots_Leaves.l0 k1 a0 l2 y134 (y126.length : Int) (wrap64 (x30_1 + 1))) = some (r1, r2) := by first | (rw [hy134]; with_reducible exact H) | (have H2_ := (Option.bind_some _ _).symm.trans H; rw [hy134]; with_reducible exact H2_) | (have H2_ := (Option.bind_some _ _).symm.trans H; with_reducible exact H2_) | with_reducible exact H | (rw [hy134]; exact H) | exact H
            have Ny134 := Aside0.mk hy134
            clear hy134
            have H' := Aside0.mk H
            clear H
            go_wp2_with (first | ((with_reducible refine gate_callee (f := 23) rfl ?_); refine goesL_ (some 38) rfl rfl Tryz.func23 (by kernel_rfl) rfl #[.string a0, .int .u64 (IntKind.u64.wrap (x30_1))] rfl (by (try simp only [List.map_toArray, List.map_cons, List.map_nil]); first | done | rfl | (simp only [List.length_drop, List.length_take]; rfl)) ?_; (with_reducible refine (tag_Pad.calls a0 (IntKind.u64.wrap (x30_1)) t129 t130 t131 t132 t133 _ ?side1 A18.out).mono ?_); (case side1 => first | exact HG.out | exact GTab.below (w := w) HG.out (by repeat (first | (with_reducible first | exact HB.out | apply below_alloc | apply pw_below_drewN | apply below_drew1) | exact HB.out))); rintro e w22 ⟨rfl, hb⟩; refine ⟨_, rfl, ?_⟩; have n0_ := Aside0.mk (Kd.R_below (by (with_reducible repeat (first | apply Kd.R_alloc | apply Kd.R_drewN | apply Kd.R_drew)); exact HO_8.out) hb); have n1_ := Aside0.mk (below_step (by repeat (first | (with_reducible first | exact HB.out | apply below_alloc | apply pw_below_drewN | apply below_drew1) | exact HB.out)) hb); clear HO_8; clear HB; have HO_8 := n0_; have HB := n1_; clear n0_ n1_; (try clear hb); (try clear hb2); (try clear hk); (try clear hi); have p21 : 0 ≤ (x30_1 : Int) := of_decide_eq_true (by first | (with_reducible assumption) | assumption); have q21 : (x30_1 : Int) < ((x8_1.length : Int) : Int) := of_decide_eq_true (by first | (with_reducible assumption) | assumption); obtain ⟨go21, co21, eo21, gb21, gl21, cl21, HG21⟩ := Kd.R_form HO_8.out (by omega); (first | cases eo21 | (injection eo21 with ea_ en_ ec_; (first | subst ea_ | (injection ea_ with ea_; subst ea_)); subst ec_; clear en_)); have GB21 := Aside0.mk gb21; have GG21 := Aside0.mk HG21; clear gb21 gl21 HG21; obtain ⟨ce21, hcl21, hM21, hcc21, hfr21⟩ := Kd.R_elem HO_8.out z55 (x30_1 : Int) p21 q21; obtain rfl := k55_openM hM21; have hx21_0 : w22.cell? ⟨go21, (x30_1 : Int).toNat * 5, none⟩ = some (.bool ((rd_T55 x8_1 x30_1).f0)) := hcc21 0 _ rfl; have hx21_1 : w22.cell? ⟨go21, (x30_1 : Int).toNat * 5 + 1, none⟩ = some (.string ((rd_T55 x8_1 x30_1).f1)) := hcc21 1 _ rfl; have hx21_2 : w22.cell? ⟨go21, (x30_1 : Int).toNat * 5 + 2, none⟩ = some (.string ((rd_T55 x8_1 x30_1).f2)) := hcc21 2 _ rfl; have hx21_3 : w22.cell? ⟨go21, (x30_1 : Int).toNat * 5 + 3, none⟩ = some (.int .u64 ((rd_T55 x8_1 x30_1).f3.f0)) := hcc21 3 _ rfl; have hx21_4 : w22.cell? ⟨go21, (x30_1 : Int).toNat * 5 + 4, none⟩ = some (.int .u64 ((rd_T55 x8_1 x30_1).f3.f1)) := hcc21 4 _ rfl; have hf21_0 : w22.frozen? ⟨go21, (x30_1 : Int).toNat * 5, none⟩ = false := hfr21 0; have hf21_1 : w22.frozen? ⟨go21, (x30_1 : Int).toNat * 5 + 1, none⟩ = false := hfr21 1; have hf21_2 : w22.frozen? ⟨go21, (x30_1 : Int).toNat * 5 + 2, none⟩ = false := hfr21 2; have hf21_3 : w22.frozen? ⟨go21, (x30_1 : Int).toNat * 5 + 3, none⟩ = false := hfr21 3; have hf21_4 : w22.frozen? ⟨go21, (x30_1 : Int).toNat * 5 + 4, none⟩ = false := hfr21 4; clear hcl21 hcc21 hfr21 hM21; replace p21 := eq_true p21; replace q21 := eq_true q21; have HX23 := Aside0.mk (show Kd.R k55 55 w22 w.heap.size (fun _ => True) (.slice (some ⟨go21, 0, none⟩) x8_1.length co16) x8_1 from (by (with_reducible repeat (first | apply Kd.R_alloc | apply Kd.R_drewN | apply Kd.R_drew)); exact HO_8.out)); obtain ⟨ce23, hcl23, hM23, hcc23, hfr23⟩ := Kd.R_elem HX23.out z55 (x30_1 : Int) (of_decide_eq_true (by first | (with_reducible assumption) | assumption)) (by have h_ : (x30_1 : Int) < ((x8_1.length : Int) : Int) := of_decide_eq_true (by first | (with_reducible assumption) | assumption); first | exact h_ | (have e_ := (Kd.R_reads' HO_8.out).1; omega) | simpa using h_); obtain rfl := k55_openM hM23; have HP23 := Kd.R_seg HX23.out (x30_1 : Int) (of_decide_eq_true (by first | (with_reducible assumption) | assumption)) (by have h_ : (x30_1 : Int) < ((x8_1.length : Int) : Int) := of_decide_eq_true (by first | (with_reducible assumption) | assumption); first | exact h_ | (have e_ := (Kd.R_reads' HO_8.out).1; omega) | simpa using h_) (seg := [.bool t129, .string t130, .string t131, .int .u64 t132, .int .u64 t133]) (j := 0) hcl23 hcc23 (show 5 ≤ 5 from by decide) (x' := (⟨t129, t130, t131, (⟨t132, t133⟩ : S39)⟩ : S55)) (k55_mkM _ _ _ (⟨t129, t130, t131, (⟨t132, t133⟩ : S39)⟩ : S55) ) (fun _ hk => hk); have hx23_0 := hcc23 0 _ rfl; (try simp only [show (k55).sz = 5 from rfl, Nat.mul_one, Nat.add_zero] at hx23_0); have hf23_0 := hfr23 0; (try simp only [show (k55).sz = 5 from rfl, Nat.mul_one, Nat.add_zero] at hf23_0); have hx23_1 := hcc23 1 _ rfl; (try simp only [show (k55).sz = 5 from rfl, Nat.mul_one, Nat.add_zero] at hx23_1); have hf23_1 := hfr23 1; (try simp only [show (k55).sz = 5 from rfl, Nat.mul_one, Nat.add_zero] at hf23_1); have hx23_2 := hcc23 2 _ rfl; (try simp only [show (k55).sz = 5 from rfl, Nat.mul_one, Nat.add_zero] at hx23_2); have hf23_2 := hfr23 2; (try simp only [show (k55).sz = 5 from rfl, Nat.mul_one, Nat.add_zero] at hf23_2); have hx23_3 := hcc23 3 _ rfl; (try simp only [show (k55).sz = 5 from rfl, Nat.mul_one, Nat.add_zero] at hx23_3); have hf23_3 := hfr23 3; (try simp only [show (k55).sz = 5 from rfl, Nat.mul_one, Nat.add_zero] at hf23_3); have hx23_4 := hcc23 4 _ rfl; (try simp only [show (k55).sz = 5 from rfl, Nat.mul_one, Nat.add_zero] at hx23_4); have hf23_4 := hfr23 4; (try simp only [show (k55).sz = 5 from rfl, Nat.mul_one, Nat.add_zero] at hf23_4); clear hcl23 hcc23 hfr23 hM23) | ((with_reducible refine gate_store (t := 55) (p := 39) rfl ?_); refine store_event (t := 55) (p := 39) (v := ?vo_w24) (w1 := (((((w22.setCell ⟨go21, (x30_1 : Int).toNat * 5, none⟩ (.bool t129)).setCell ⟨go21, (x30_1 : Int).toNat * 5 + 1, none⟩ (.string t130)).setCell ⟨go21, (x30_1 : Int).toNat * 5 + 2, none⟩ (.string t131)).setCell ⟨go21, (x30_1 : Int).toNat * 5 + 3, none⟩ (.int .u64 t132)).setCell ⟨go21, (x30_1 : Int).toNat * 5 + 4, none⟩ (.int .u64 t133))) ?hg ?ho ?hn ?hr ?_; (case ho => rfl); (case hg => rfl); (case hn => rfl); (case hr => first | (go_simp; done) | (go_simp; rfl)); intro w24 hw; have hg : w22.grownBy w24 (some go21) := (by rw [hw]; exact HP23.2); have hp_ : Kd.R k55 55 w24 w.heap.size (fun _ => True) (.slice (some ⟨go21, 0, none⟩) x8_1.length co16) y134 := (by rw [hw, Ny134.out]; exact HP23.1); clear HP23; have n0_ := Aside0.mk (hp_); have n1_ := Aside0.mk ((by rw [hw]; exact below_set (below_set (below_set (below_set (below_set (HB.out) GB21.out) GB21.out) GB21.out) GB21.out) GB21.out : Below w.heap.size w w24)); clear HO_8; clear HB; have HO_8 := n0_; have HB := n1_; clear n0_ n1_; clear hg hw hp_))
            (try simp only [← hl8_1])
            go_roundg k1
            case measure => have := HK1.out; omega
            case rel => exact ⟨(y134), (wrap64 (x30_1 + 1)), (by first | rfl | (simp; done) | (simp [*]; done)), H', ⟨by have := HK1.out; omega⟩, ⟨by (try simp only [hl8_1]); (with_reducible repeat (first | apply Kd.R_alloc | apply Kd.R_drewN | apply Kd.R_drew)); exact HO_8.out⟩, ⟨by repeat (first | (with_reducible first | exact HB.out | apply below_alloc | apply pw_below_drewN | apply below_drew1) | exact HB.out)⟩⟩
           ·rw [if_neg c20] at H
            exact absurd H (by simp)
          ·rw [if_neg c19] at H
           exact absurd H (by simp)
         ·rw [if_neg c17] at H
          have c17b0 : decide (x30_1 < (y126.length : Int)) = false := decide_eq_false c17
          have c17f := c17b0; rw [hl8_1] at c17f
          clear c17
          have H' := Aside0.mk H
          clear H
          go_wp2
          go_loopg [43] k1 (fun kq v43 w' => ∃ (x8_2 : List (S55)) (x43_2 : Int), v43 = .int .i64 x43_2 ∧ Aside0 (slots_Leaves.l1 kq x8_2 l2 (l2.length : Int) x43_2 = some (r1, r2)) ∧ Aside0 (kq ≤ k1) ∧ Aside0 (Kd.R k55 55 w' w.heap.size (fun _ => True) (.slice Ao16 x8_1.length co16) x8_2) ∧ Aside0 (Below w.heap.size w w'))
          case atStart => exact ⟨(x8_1), (0), (by first | rfl | (simp; done) | (simp [*]; done)), H', ⟨Nat.le_refl _⟩, ⟨by (try simp only [hl8_1]); (with_reducible repeat (first | apply Kd.R_alloc | apply Kd.R_drewN | apply Kd.R_drew)); exact HO_8.out⟩, ⟨by repeat (first | (with_reducible first | exact HB.out | apply below_alloc | apply pw_below_drewN | apply below_drew1) | exact HB.out)⟩⟩
          case round =>
           clear H'
           try clear c1
           try clear c2
           try clear p2
           try clear q2
           try clear hx2
           try clear c5
           try clear c6
           try clear c6b0
           try clear c6b1
           try clear p6
           try clear c8
           try clear c9
           try clear c9b0
           try clear c9b1
           try clear c11
           try clear c11b0
           try clear c11b1
           try clear c12
           try clear c12b0
           try clear c12b1
           try clear c15
           try clear c17
           try clear c17b0
           try clear c19
           try clear c19b0
           try clear c20
           try clear c20b0
           try clear c21
           try clear p21
           try clear q21
           try clear hx21
           try clear hf21
           try clear c23
           try clear hx23
           try clear hf23
           try clear hx21_0
           try clear hx21_1
           try clear hx21_2
           try clear hx21_3
           try clear hx21_4
           try clear hx23_0
           try clear hx23_1
           try clear hx23_2
           try clear hx23_3
           try clear hx23_4
           try clear p2
           try clear p21
           try clear p6
           try clear q21
           obtain ⟨x8_2, x43_2, rfl, HA, HK2, HO_8, HB⟩ := hrel
           have hl8_2 := (Kd.R_reads' HO_8.out).1
           rw [hl8_2] at HO_8
           (try simp only [hl8_2])
           cases gk with
           | zero => exact absurd HA.out (by simp [slots_Leaves.l1])
           | succ k2 =>
            have H := HA.out
            clear HA
            simp only [slots_Leaves.l1] at H
            by_cases c25 : x43_2 < (l2.length : Int)
            ·rw [if_pos c25] at H
             have c25b0 : decide (x43_2 < (l2.length : Int)) = true := decide_eq_true c25
             clear c25
             by_cases c26 : 0 ≤ x43_2
             ·rw [if_pos c26] at H
              have c26b0 : decide (0 ≤ x43_2) = true := decide_eq_true c26
              clear c26
              by_cases c27 : x43_2 < (l2.length : Int)
              ·rw [if_pos c27] at H
               have c27b0 : decide (x43_2 < (l2.length : Int)) = true := decide_eq_true c27
               clear c27
               replace H := Option.bind_eq_some_iff.mp H
               obtain ⟨⟨t137, t138, t139, t140, t141⟩, A280, H⟩ := H
               replace H : (if 0 ≤ ((rd_T41 l2 x43_2).f3) then (if ((rd_T41 l2 x43_2).f3) < (x8_2.length : Int) then (slots_Leaves.l1 k2 (x8_2.set (((rd_T41 l2 x43_2).f3) : Int).toNat (⟨t137, t138, t139, (⟨t140, t141⟩ : S39)⟩ : S55)) l2 (l2.length : Int) (wrap64 (x43_2 + 1))) else (none)) else (none)) = some (r1, r2) := H
               have A28 := Aside0.mk A280
               clear A280
               by_cases c29 : 0 ≤ ((rd_T41 l2 x43_2).f3)
               ·rw [if_pos c29] at H
                have c29b0 : decide (0 ≤ ((rd_T41 l2 x43_2).f3)) = true := decide_eq_true c29
                clear c29
                by_cases c30 : ((rd_T41 l2 x43_2).f3) < (x8_2.length : Int)
                ·rw [if_pos c30] at H
                 have c30b0 : decide (((rd_T41 l2 x43_2).f3) < (x8_2.length : Int)) = true := decide_eq_true c30
                 clear c30
                 obtain ⟨y142, hy142⟩ : ∃ y_ : List (S55), y_ = (x8_2.set (((rd_T41 l2 x43_2).f3) : Int).toNat (⟨t137, t138, t139, (⟨t140, t141⟩ : S39)⟩ : S55)) := ⟨_, rfl⟩
                 replace H : (slots_Leaves.l1 k2 y142 l2 (l2.length : Int) (wrap64 (x43_2 + 1))) = some (r1, r2) := by first | (rw [hy142]; with_reducible exact H) | (have H2_ := (Option.bind_some _ _).symm.trans H; rw [hy142]; with_reducible exact H2_) | (have H2_ := (Option.bind_some _ _).symm.trans H; with_reducible exact H2_) | with_reducible exact H | (rw [hy142]; exact H) | exact H
                 have Ny142 := Aside0.mk hy142
                 clear hy142
                 have H' := Aside0.mk H
                 clear H
                 have p135 : 0 ≤ (x43_2 : Int) := of_decide_eq_true (by first | (with_reducible assumption) | assumption)
                 have q135 : x43_2 < (l2.length : Int) := of_decide_eq_true (by first | (with_reducible assumption) | assumption)
                 obtain ⟨ad135, e135, hx135_0, hx135_1, hx135_2, hx135_3, hx135_4⟩ := at_T41 HR2.out x43_2 p135 q135
                 cases e135
                 replace hx135_0 := (HB.out.cell (World.block_lt_of_cell? w _ hx135_0)).trans hx135_0
                 replace hx135_1 := (HB.out.cell (World.block_lt_of_cell? w _ hx135_1)).trans hx135_1
                 replace hx135_2 := (HB.out.cell (World.block_lt_of_cell? w _ hx135_2)).trans hx135_2
                 replace hx135_3 := (HB.out.cell (World.block_lt_of_cell? w _ hx135_3)).trans hx135_3
                 replace hx135_4 := (HB.out.cell (World.block_lt_of_cell? w _ hx135_4)).trans hx135_4
                 replace p135 := eq_true p135
                 replace q135 := eq_true q135
                 try go_wp2_with (first | ((with_reducible refine gate_dst (N := 11) rfl ?_); refine box_event ?hg (N := 11) ?hd (cs := #[.string (⟨#[]⟩ : ByteArray), .int .u64 0, .int .u64 0, .string (⟨#[]⟩ : ByteArray), .int .u64 0]) (t := 41) ?hr ?_; (case hd => rfl); (case hg => rfl); (case hr => first | (go_simp; done) | (go_simp; rfl)); intro gb136 hg w32 hbox hb; have n0_ := Aside0.mk (Kd.R_below (by (with_reducible repeat (first | apply Kd.R_alloc | apply Kd.R_drewN | apply Kd.R_drew)); exact HO_8.out) hb); have n1_ := Aside0.mk (below_step (by repeat (first | (with_reducible first | exact HB.out | apply below_alloc | apply pw_below_drewN | apply below_drew1) | exact HB.out)) hb); have n2_ := Aside0.mk (hbox); have n3_ := Aside0.mk ((by rw [hg]; exact (below_size (by repeat (first | (with_reducible first | exact HB.out | apply below_alloc | apply pw_below_drewN | apply below_drew1) | exact HB.out))) : w.heap.size ≤ gb136)); have n4_ := Aside0.mk ((by rw [hg]; exact (below_size (by repeat (first | (with_reducible first | exact HB.out | apply below_alloc | apply pw_below_drewN | apply below_drew1) | exact HB.out))) : w.heap.size ≤ gb136)); clear HO_8; clear HB; have HO_8 := n0_; have HB := n1_; have BK136 := n2_; have GW136 := n3_; have GE136 := n4_; clear n0_ n1_ n2_ n3_ n4_; clear hb hbox hg; have hcz33_0 : w32.cell? ⟨gb136, 0, none⟩ = some (.string (⟨#[]⟩ : ByteArray)) := (blk_cell BK136.out 0).trans rfl; have hcz33_1 : w32.cell? ⟨gb136, 1, none⟩ = some (.int .u64 0) := (blk_cell BK136.out 1).trans rfl; have hcz33_2 : w32.cell? ⟨gb136, 2, none⟩ = some (.int .u64 0) := (blk_cell BK136.out 2).trans rfl; have hcz33_3 : w32.cell? ⟨gb136, 3, none⟩ = some (.string (⟨#[]⟩ : ByteArray)) := (blk_cell BK136.out 3).trans rfl; have hcz33_4 : w32.cell? ⟨gb136, 4, none⟩ = some (.int .u64 0) := (blk_cell BK136.out 4).trans rfl; have hfz33_0 := blk_frozen BK136.out 0; have hfz33_1 := blk_frozen BK136.out 1; have hfz33_2 := blk_frozen BK136.out 2; have hfz33_3 := blk_frozen BK136.out 3; have hfz33_4 := blk_frozen BK136.out 4))
                 have n0_ : Aside0 (Kd.R k55 55 (((((w32.setCell ⟨gb136, 0, none⟩ (.string ((rd_T41 l2 x43_2).f0))).setCell ⟨gb136, 1, none⟩ (.int .u64 ((rd_T41 l2 x43_2).f1.f0))).setCell ⟨gb136, 2, none⟩ (.int .u64 ((rd_T41 l2 x43_2).f1.f1))).setCell ⟨gb136, 3, none⟩ (.string ((rd_T41 l2 x43_2).f2))).setCell ⟨gb136, 4, none⟩ (.int .u64 ((rd_T41 l2 x43_2).f3))) w.heap.size (fun _ => True) (.slice Ao16 x8_2.length co16) x8_2) := ⟨by (with_reducible repeat (first | apply Kd.R_alloc | apply Kd.R_drewN | apply Kd.R_drew)); exact Kd.R_mono (Kd.R_far (p := ⟨gb136, 4, none⟩) (Kd.R_far (p := ⟨gb136, 3, none⟩) (Kd.R_far (p := ⟨gb136, 2, none⟩) (Kd.R_far (p := ⟨gb136, 1, none⟩) (Kd.R_far (p := ⟨gb136, 0, none⟩) (Kd.R_types HO_8.out BK136.out (by decide)) (fun _ hk => hk.2) (.string ((rd_T41 l2 x43_2).f0))) (fun _ hk => hk.2) (.int .u64 ((rd_T41 l2 x43_2).f1.f0))) (fun _ hk => hk.2) (.int .u64 ((rd_T41 l2 x43_2).f1.f1))) (fun _ hk => hk.2) (.string ((rd_T41 l2 x43_2).f2))) (fun _ hk => hk.2) (.int .u64 ((rd_T41 l2 x43_2).f3))) (fun _ hk => trivial)⟩
                 have n1_ : Aside0 ((((((w32.setCell ⟨gb136, 0, none⟩ (.string ((rd_T41 l2 x43_2).f0))).setCell ⟨gb136, 1, none⟩ (.int .u64 ((rd_T41 l2 x43_2).f1.f0))).setCell ⟨gb136, 2, none⟩ (.int .u64 ((rd_T41 l2 x43_2).f1.f1))).setCell ⟨gb136, 3, none⟩ (.string ((rd_T41 l2 x43_2).f2))).setCell ⟨gb136, 4, none⟩ (.int .u64 ((rd_T41 l2 x43_2).f3))).heap[gb136]? = some (.cells #[.string ((rd_T41 l2 x43_2).f0), .int .u64 ((rd_T41 l2 x43_2).f1.f0), .int .u64 ((rd_T41 l2 x43_2).f1.f1), .string ((rd_T41 l2 x43_2).f2), .int .u64 ((rd_T41 l2 x43_2).f3)] 41 (0, 0))) := ⟨by (with_reducible repeat (first | refine blk_drewN ?_ _ | refine blk_drew ?_ | refine blk_alloc ?_ _)); refine blk_put (cs := #[.string ((rd_T41 l2 x43_2).f0), .int .u64 ((rd_T41 l2 x43_2).f1.f0), .int .u64 ((rd_T41 l2 x43_2).f1.f1), .string ((rd_T41 l2 x43_2).f2), .int .u64 0]) ?_ 4 _ rfl; (with_reducible repeat (first | refine blk_drewN ?_ _ | refine blk_drew ?_ | refine blk_alloc ?_ _)); refine blk_put (cs := #[.string ((rd_T41 l2 x43_2).f0), .int .u64 ((rd_T41 l2 x43_2).f1.f0), .int .u64 ((rd_T41 l2 x43_2).f1.f1), .string (⟨#[]⟩ : ByteArray), .int .u64 0]) ?_ 3 _ rfl; (with_reducible repeat (first | refine blk_drewN ?_ _ | refine blk_drew ?_ | refine blk_alloc ?_ _)); refine blk_put (cs := #[.string ((rd_T41 l2 x43_2).f0), .int .u64 ((rd_T41 l2 x43_2).f1.f0), .int .u64 0, .string (⟨#[]⟩ : ByteArray), .int .u64 0]) ?_ 2 _ rfl; (with_reducible repeat (first | refine blk_drewN ?_ _ | refine blk_drew ?_ | refine blk_alloc ?_ _)); refine blk_put (cs := #[.string ((rd_T41 l2 x43_2).f0), .int .u64 0, .int .u64 0, .string (⟨#[]⟩ : ByteArray), .int .u64 0]) ?_ 1 _ rfl; (with_reducible repeat (first | refine blk_drewN ?_ _ | refine blk_drew ?_ | refine blk_alloc ?_ _)); refine blk_put (cs := #[.string (⟨#[]⟩ : ByteArray), .int .u64 0, .int .u64 0, .string (⟨#[]⟩ : ByteArray), .int .u64 0]) ?_ 0 _ rfl; (with_reducible repeat (first | refine blk_drewN ?_ _ | refine blk_drew ?_ | refine blk_alloc ?_ _)); exact BK136.out⟩
                 have n2_ : Aside0 (Below w.heap.size w (((((w32.setCell ⟨gb136, 0, none⟩ (.string ((rd_T41 l2 x43_2).f0))).setCell ⟨gb136, 1, none⟩ (.int .u64 ((rd_T41 l2 x43_2).f1.f0))).setCell ⟨gb136, 2, none⟩ (.int .u64 ((rd_T41 l2 x43_2).f1.f1))).setCell ⟨gb136, 3, none⟩ (.string ((rd_T41 l2 x43_2).f2))).setCell ⟨gb136, 4, none⟩ (.int .u64 ((rd_T41 l2 x43_2).f3)))) := ⟨by repeat (first | (with_reducible first | exact HB.out | apply below_alloc | apply pw_below_drewN | apply below_drew1 | refine below_set ?_ GE136.out) | exact HB.out)⟩
                 (try clear HO_8)
                 (try clear BK136)
                 (try clear HB)
                 generalize (((((w32.setCell ⟨gb136, 0, none⟩ (.string ((rd_T41 l2 x43_2).f0))).setCell ⟨gb136, 1, none⟩ (.int .u64 ((rd_T41 l2 x43_2).f1.f0))).setCell ⟨gb136, 2, none⟩ (.int .u64 ((rd_T41 l2 x43_2).f1.f1))).setCell ⟨gb136, 3, none⟩ (.string ((rd_T41 l2 x43_2).f2))).setCell ⟨gb136, 4, none⟩ (.int .u64 ((rd_T41 l2 x43_2).f3))) = w34 at n0_ n1_ n2_ ⊢
                 have HO_8 := n0_
                 have BK136 := n1_
                 have HB := n2_
                 clear n0_ n1_ n2_
                 have n0_ := Aside0.mk (Kd.R_drew HO_8.out)
                 have n1_ := Aside0.mk (blk_drew BK136.out)
                 have n2_ := Aside0.mk (below_drew1 HB.out)
                 clear HO_8
                 clear BK136
                 clear HB
                 have HO_8 := n0_
                 have BK136 := n1_
                 have HB := n2_
                 clear n0_ n1_ n2_
                 refine start_ (n := 7) (S := fun w' => w'.cell? ⟨gb136, 0, none⟩ = some (.string ((rd_T41 l2 x43_2).f0)) ∧ w'.cell? ⟨gb136, 1, none⟩ = some (.int .u64 ((rd_T41 l2 x43_2).f1.f0)) ∧ w'.cell? ⟨gb136, 2, none⟩ = some (.int .u64 ((rd_T41 l2 x43_2).f1.f1)) ∧ w'.cell? ⟨gb136, 3, none⟩ = some (.string ((rd_T41 l2 x43_2).f2)) ∧ w'.cell? ⟨gb136, 4, none⟩ = some (.int .u64 ((rd_T41 l2 x43_2).f3))) (ds := [6]) #[false, false, false, false, false, false, false] (by kernel_rfl) rfl rfl ⟨(blk_cell BK136.out 0).trans rfl, (blk_cell BK136.out 1).trans rfl, (blk_cell BK136.out 2).trans rfl, (blk_cell BK136.out 3).trans rfl, (blk_cell BK136.out 4).trans rfl⟩ (fun hHeld => ?_)
                 generalize w34.drew = w35 at HO_8 BK136 HB hHeld ⊢
                 refine pure_ (i := 0) (N := some 47) (v := ?_) (a' := ?_) #[true, false, false, false, false, false, false] rfl rfl (by kernel_rfl) (fun _ _ _ h => h) (Or.inl ⟨by rfl, ?_⟩) ?_ ?_
                 rotate_left
                 ·intro w'
                  go_simp
                  with_reducible rfl
                 rotate_left
                 ·simp only [Act.put, List.setIfInBounds_toArray, List.set_cons_zero, List.set_cons_succ, i64_w, i32_w]
                  rfl
                 refine pure_ (i := 1) (N := some 48) (v := ?_) (a' := ?_) #[true, true, false, false, false, false, false] rfl rfl (by kernel_rfl) (fun _ _ _ h => h) (Or.inl ⟨by rfl, ?_⟩) ?_ ?_
                 rotate_left
                 ·intro w'
                  go_simp
                  with_reducible rfl
                 rotate_left
                 ·simp only [Act.put, List.setIfInBounds_toArray, List.set_cons_zero, List.set_cons_succ, i64_w, i32_w]
                  rfl
                 refine take_ (i := 2) (N := some 49) (v := ?_) (a' := ?_) #[true, true, true, false, false, false, false] rfl rfl (by kernel_rfl) (fun _ _ _ h => h) (Or.inl ⟨by rfl, ?_⟩) hHeld ?_ ?_
                 rotate_left
                 ·rintro w' ⟨s0, s1, s2, s3, s4⟩
                  go_simp
                  with_reducible rfl
                 rotate_left
                 ·simp only [Act.put, List.setIfInBounds_toArray, List.set_cons_zero, List.set_cons_succ, i64_w, i32_w]
                  rfl
                 refine take_ (i := 3) (N := some 50) (v := ?_) (a' := ?_) #[true, true, true, true, false, false, false] rfl rfl (by kernel_rfl) (fun _ _ _ h => h) (Or.inl ⟨by rfl, ?_⟩) hHeld ?_ ?_
                 rotate_left
                 ·rintro w' ⟨s0, s1, s2, s3, s4⟩
                  go_simp
                  with_reducible rfl
                 rotate_left
                 ·simp only [Act.put, List.setIfInBounds_toArray, List.set_cons_zero, List.set_cons_succ, i64_w, i32_w]
                  rfl
                 refine one_ (i := 4) (N := some 51) #[true, true, true, true, true, false, false] rfl rfl (by kernel_rfl) (by decide) (fun K hK => ?_)
                 refine goes_ Tryz.func22 (by kernel_rfl) rfl #[.agg #[.string ((rd_T41 l2 x43_2).f0), .int .u64 ((rd_T41 l2 x43_2).f1.f0), .int .u64 ((rd_T41 l2 x43_2).f1.f1), .string ((rd_T41 l2 x43_2).f2), .int .u64 ((rd_T41 l2 x43_2).f3)]] (by rfl) rfl rfl (by (try simp only [List.map_toArray, List.map_cons, List.map_nil]); first | done | rfl | (simp only [List.length_drop, List.length_take]; rfl)) ?_
                 with_reducible refine (slots_Leaf.calls ((rd_T41 l2 x43_2).f0) ((rd_T41 l2 x43_2).f1.f0) ((rd_T41 l2 x43_2).f1.f1) ((rd_T41 l2 x43_2).f2) ((rd_T41 l2 x43_2).f3) t137 t138 t139 t140 t141 _ A28.out).mono ?_
                 rintro e w36 ⟨rfl, hb⟩
                 refine ⟨_, rfl, ?_⟩
                 have n0_ := Aside0.mk (Kd.R_below (by (with_reducible repeat (first | apply Kd.R_alloc | apply Kd.R_drewN | apply Kd.R_drew)); exact HO_8.out) hb)
                 have n1_ := Aside0.mk (blk_below (g := gb136) (o := .cells #[.string ((rd_T41 l2 x43_2).f0), .int .u64 ((rd_T41 l2 x43_2).f1.f0), .int .u64 ((rd_T41 l2 x43_2).f1.f1), .string ((rd_T41 l2 x43_2).f2), .int .u64 ((rd_T41 l2 x43_2).f3)] 41 (0, 0)) (by (with_reducible repeat (first | refine blk_drewN ?_ _ | refine blk_drew ?_ | refine blk_alloc ?_ _)); exact BK136.out) hb)
                 have n2_ := Aside0.mk (below_step (by repeat (first | (with_reducible first | exact HB.out | apply below_alloc | apply pw_below_drewN | apply below_drew1 | refine below_set ?_ GE136.out) | exact HB.out)) hb)
                 clear HO_8
                 clear BK136
                 clear HB
                 have HO_8 := n0_
                 have BK136 := n1_
                 have HB := n2_
                 clear n0_ n1_ n2_
                 (try clear hb)
                 (try clear hb2)
                 (try clear hk)
                 (try clear hi)
                 have p31 : 0 ≤ (((rd_T41 l2 x43_2).f3) : Int) := of_decide_eq_true (by first | (with_reducible assumption) | assumption)
                 have q31 : (((rd_T41 l2 x43_2).f3) : Int) < ((x8_2.length : Int) : Int) := of_decide_eq_true (by first | (with_reducible assumption) | assumption)
                 obtain ⟨go31, co31, eo31, gb31, gl31, cl31, HG31⟩ := Kd.R_form HO_8.out (by omega)
                 (first | cases eo31 | (injection eo31 with ea_ en_ ec_; (first | subst ea_ | (injection ea_ with ea_; subst ea_)); subst ec_; clear en_))
                 have GB31 := Aside0.mk gb31
                 have GG31 := Aside0.mk HG31
                 clear gb31 gl31 HG31
                 obtain ⟨ce31, hcl31, hM31, hcc31, hfr31⟩ := Kd.R_elem HO_8.out z55 (((rd_T41 l2 x43_2).f3) : Int) p31 q31
                 obtain rfl := k55_openM hM31
                 have hx31_0 : World.cell? _ ⟨go31, (((rd_T41 l2 x43_2).f3) : Int).toNat * 5, none⟩ = some (.bool ((rd_T55 x8_2 ((rd_T41 l2 x43_2).f3)).f0)) := hcc31 0 _ rfl
                 have hx31_1 : World.cell? _ ⟨go31, (((rd_T41 l2 x43_2).f3) : Int).toNat * 5 + 1, none⟩ = some (.string ((rd_T55 x8_2 ((rd_T41 l2 x43_2).f3)).f1)) := hcc31 1 _ rfl
                 have hx31_2 : World.cell? _ ⟨go31, (((rd_T41 l2 x43_2).f3) : Int).toNat * 5 + 2, none⟩ = some (.string ((rd_T55 x8_2 ((rd_T41 l2 x43_2).f3)).f2)) := hcc31 2 _ rfl
                 have hx31_3 : World.cell? _ ⟨go31, (((rd_T41 l2 x43_2).f3) : Int).toNat * 5 + 3, none⟩ = some (.int .u64 ((rd_T55 x8_2 ((rd_T41 l2 x43_2).f3)).f3.f0)) := hcc31 3 _ rfl
                 have hx31_4 : World.cell? _ ⟨go31, (((rd_T41 l2 x43_2).f3) : Int).toNat * 5 + 4, none⟩ = some (.int .u64 ((rd_T55 x8_2 ((rd_T41 l2 x43_2).f3)).f3.f1)) := hcc31 4 _ rfl
                 have hf31_0 : World.frozen? _ ⟨go31, (((rd_T41 l2 x43_2).f3) : Int).toNat * 5, none⟩ = false := hfr31 0
                 have hf31_1 : World.frozen? _ ⟨go31, (((rd_T41 l2 x43_2).f3) : Int).toNat * 5 + 1, none⟩ = false := hfr31 1
                 have hf31_2 : World.frozen? _ ⟨go31, (((rd_T41 l2 x43_2).f3) : Int).toNat * 5 + 2, none⟩ = false := hfr31 2
                 have hf31_3 : World.frozen? _ ⟨go31, (((rd_T41 l2 x43_2).f3) : Int).toNat * 5 + 3, none⟩ = false := hfr31 3
                 have hf31_4 : World.frozen? _ ⟨go31, (((rd_T41 l2 x43_2).f3) : Int).toNat * 5 + 4, none⟩ = false := hfr31 4
                 clear hcl31 hcc31 hfr31 hM31
                 replace p31 := eq_true p31
                 replace q31 := eq_true q31
                 obtain ⟨ce37, hcl37, hM37, hcc37, hfr37⟩ := Kd.R_elem HO_8.out z55 (((rd_T41 l2 x43_2).f3) : Int) (of_decide_eq_true (by first | (with_reducible assumption) | assumption)) (by have h_ : (((rd_T41 l2 x43_2).f3) : Int) < ((x8_2.length : Int) : Int) := of_decide_eq_true (by first | (with_reducible assumption) | assumption); first | exact h_ | (have e_ := (Kd.R_reads' HO_8.out).1; omega) | simpa using h_)
                 obtain rfl := k55_openM hM37
                 have HP37 := (Kd.R_seg HO_8.out (((rd_T41 l2 x43_2).f3) : Int) (of_decide_eq_true (by first | (with_reducible assumption) | assumption)) (by have h_ : (((rd_T41 l2 x43_2).f3) : Int) < ((x8_2.length : Int) : Int) := of_decide_eq_true (by first | (with_reducible assumption) | assumption); first | exact h_ | (have e_ := (Kd.R_reads' HO_8.out).1; omega) | simpa using h_) (seg := [.bool t137, .string t138, .string t139, .int .u64 t140, .int .u64 t141]) (j := 0) hcl37 hcc37 (show 5 ≤ 5 from by decide) (x' := (⟨t137, t138, t139, (⟨t140, t141⟩ : S39)⟩ : S55)) (k55_mkM _ _ _ (⟨t137, t138, t139, (⟨t140, t141⟩ : S39)⟩ : S55) ) (fun _ hk => hk)).1
                 rw [← Ny142.out] at HP37
                 have HQ37 := Aside0.mk HP37
                 clear hcl37 hcc37 hfr37 hM37 HP37
                 refine hK.out _ _ ⟨(blk_cell BK136.out 0).trans rfl, (blk_cell BK136.out 1).trans rfl, (blk_cell BK136.out 2).trans rfl, (blk_cell BK136.out 3).trans rfl, (blk_cell BK136.out 4).trans rfl⟩ (fun hHeld => ?_)
                 clear hK K
                 refine norm_ (a' := ?_) ?_ ?_
                 rotate_left
                 ·show Act.put _ (some 51) _ = _
                  simp only [Act.put, List.setIfInBounds_toArray, List.set_cons_zero, List.set_cons_succ, i64_w, i32_w]
                  rfl
                 refine pure_ (i := 5) (N := some 52) (v := ?_) (a' := ?_) #[true, true, true, true, true, true, false] rfl rfl (by kernel_rfl) (fun _ _ _ h => h) (Or.inl ⟨by rfl, ?_⟩) ?_ ?_
                 rotate_left
                 ·intro w'
                  go_simp
                  with_reducible rfl
                 rotate_left
                 ·simp only [Act.put, List.setIfInBounds_toArray, List.set_cons_zero, List.set_cons_succ, i64_w, i32_w]
                  rfl
                 refine last_ (i := 6) (N := none) #[true, true, true, true, true, true, true] rfl rfl (by kernel_rfl) (by decide) (fun K hK => ?_)
                 refine skip_ (w1 := ?_) (by rfl) rfl ?_ ?_
                 rotate_left
                 ·go_simp
                  rfl
                 refine hK.out _ _ ?_
                 clear hK K
                 refine done_ (by kernel_rfl) ?_
                 try go_wp2
                 (try simp only [← hl8_2])
                 go_roundg k2
                 case measure => have := HK1.out; have := HK2.out; omega
                 case rel => exact ⟨(y142), (wrap64 (x43_2 + 1)), (by first | rfl | (simp; done) | (simp [*]; done)), H', ⟨by have := HK1.out; have := HK2.out; omega⟩, ⟨by (try simp only [hl8_1]); (try simp only [hl8_2]); (with_reducible repeat (first | apply Kd.R_alloc | apply Kd.R_drewN | apply Kd.R_drew)); exact HQ37.out⟩, ⟨by repeat (first | (with_reducible first | exact HB.out | apply below_alloc | apply pw_below_drewN | apply below_drew1 | refine below_set ?_ GB31.out | refine below_set ?_ GB31.out | refine below_set ?_ GB31.out | refine below_set ?_ GB31.out | refine below_set ?_ GB31.out | refine below_set ?_ GE136.out) | exact HB.out)⟩⟩
                ·rw [if_neg c30] at H
                 exact absurd H (by simp)
               ·rw [if_neg c29] at H
                exact absurd H (by simp)
              ·rw [if_neg c27] at H
               exact absurd H (by simp)
             ·rw [if_neg c26] at H
              exact absurd H (by simp)
            ·rw [if_neg c25] at H
             have c25b0 : decide (x43_2 < (l2.length : Int)) = false := decide_eq_false c25
             clear c25
             simp only [Option.some.injEq, Prod.mk.injEq] at H
             obtain ⟨rfl, rfl⟩ := H
             go_wp2
             go_ret2
             exact ⟨_, by first | rfl | (simp [errW_none, errW_some] <;> rfl) | (simp only [← hji10]; first | rfl | (simp [errW_none, errW_some] <;> rfl)) | (simp [*, errW_none, errW_some] <;> rfl), by (with_reducible repeat (first | apply Kd.R_alloc | apply Kd.R_drewN | apply Kd.R_drew)); exact HO_8.out, by repeat (first | (with_reducible first | exact HB.out | apply below_alloc | apply pw_below_drewN | apply below_drew1) | exact HB.out)⟩
      ·rw [if_neg c12] at H
       exact absurd H (by simp)
     ·rw [if_neg c11] at H
      exact absurd H (by simp)
    ·rw [if_neg c9] at H
     exact absurd H (by simp)
   ·replace c8 := Bool.eq_false_iff.mpr c8
    subst c8
    have H1 : (some (([] : List (S55)), 2)) = some (r1, r2) := by rw [if_neg (show ¬ (false = true) by decide)] at H; exact H
    clear H
    have H := H1
    clear H1
    simp only [Option.some.injEq, Prod.mk.injEq] at H
    obtain ⟨rfl, rfl⟩ := H
    go_enter Tryz.func20, Tryz.ntmps20
    go_wp2_with (first | ((with_reducible refine gate_callee (f := 25) rfl ?_); refine goesL_ (some 14) rfl rfl Tryz.func25 (by kernel_rfl) rfl #[.int .i64 a1] rfl (by (try simp only [List.map_toArray, List.map_cons, List.map_nil]); first | done | rfl | (simp only [List.length_drop, List.length_take]; rfl)) ?_; (with_reducible refine (slots_high.calls a1 true _ A4.out).mono ?_); rintro e w' ⟨rfl, ⟨nd, rfl⟩⟩; refine ⟨_, rfl, ?_⟩) | ((with_reducible refine gate_callee (f := 15) rfl ?_); refine goesL_ (some 23) rfl rfl Tryz.func15 (by kernel_rfl) rfl #[.slice A2 l2.length c2, .int .i64 a1] rfl (by (try simp only [List.map_toArray, List.map_cons, List.map_nil]); first | done | rfl | (simp only [List.length_drop, List.length_take]; rfl)) ?_; (with_reducible refine (slots_May.calls _ _ l2 a1 false _ ?side3 ?side1 ?side2 A7.out).mono ?_); (case side1 => repeat (first | exact HR2.out | (with_reducible refine Kd.C_alloc ?_ _) | (with_reducible refine Kd.C_drewN ?_ _) | (with_reducible refine Kd.C_drew ?_))); (case side2 => exact HC2.out); (case side3 => first | exact HG.out | exact GTab.below (w := w) HG.out (by repeat (first | (with_reducible first | exact HB.out | apply below_alloc | apply pw_below_drewN | apply below_drew1) | exact HB.out))); rintro e w38 ⟨rfl, hb⟩; refine ⟨_, rfl, ?_⟩; have n0_ := Aside0.mk (below_step (by repeat (first | (with_reducible first | exact HB.out | apply below_alloc | apply pw_below_drewN | apply below_drew1) | exact HB.out)) hb); clear HB; have HB := n0_; clear n0_; (try clear hb); (try clear hb2); (try clear hk); (try clear hi)))
    go_ret2
    exact ⟨_, by first | rfl | (simp [errW_none, errW_some] <;> rfl) | (simp [*, errW_none, errW_some] <;> rfl), by first | exact Kd.R_nil _ _ _ _ _ | exact Kd.N_nil _ _ _ _ _ | exact Kd.V_nil _ _ _ _ _ | exact Kd.Q_nil _ _ _ _ _ | exact Kd.S_nil _ _ _ _ _, by repeat (first | (with_reducible first | exact HB.out | apply below_alloc | apply pw_below_drewN | apply below_drew1) | exact HB.out)⟩
 ·replace c5 := Bool.eq_false_iff.mpr c5
  subst c5
  have H1 : (some (([] : List (S55)), 120)) = some (r1, r2) := by rw [if_neg (show ¬ (false = true) by decide)] at H; exact H
  clear H
  have H := H1
  clear H1
  simp only [Option.some.injEq, Prod.mk.injEq] at H
  obtain ⟨rfl, rfl⟩ := H
  go_enter Tryz.func20, Tryz.ntmps20
  go_wp2_with (first | ((with_reducible refine gate_callee (f := 25) rfl ?_); refine goesL_ (some 14) rfl rfl Tryz.func25 (by kernel_rfl) rfl #[.int .i64 a1] rfl (by (try simp only [List.map_toArray, List.map_cons, List.map_nil]); first | done | rfl | (simp only [List.length_drop, List.length_take]; rfl)) ?_; (with_reducible refine (slots_high.calls a1 false _ A4.out).mono ?_); rintro e w' ⟨rfl, ⟨nd, rfl⟩⟩; refine ⟨_, rfl, ?_⟩))
  go_ret2
  exact ⟨_, by first | rfl | (simp [errW_none, errW_some] <;> rfl) | (simp [*, errW_none, errW_some] <;> rfl), by first | exact Kd.R_nil _ _ _ _ _ | exact Kd.N_nil _ _ _ _ _ | exact Kd.V_nil _ _ _ _ _ | exact Kd.Q_nil _ _ _ _ _ | exact Kd.S_nil _ _ _ _ _, by repeat (first | (with_reducible first | exact HB.out | apply below_alloc | apply pw_below_drewN | apply below_drew1) | exact HB.out)⟩

end Go.Proofs.YtfijhbfdkcajjaaGreatDoor.Pr
