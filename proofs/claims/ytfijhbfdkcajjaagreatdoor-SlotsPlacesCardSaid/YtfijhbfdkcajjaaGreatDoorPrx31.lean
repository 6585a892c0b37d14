import Derived.Test.YtfijhbfdkcajjaaGreatDoorQk
import Derived.Test.YtfijhbfdkcajjaaGreatDoorPrx0
import Derived.Test.YtfijhbfdkcajjaaGreatDoorFindAll
import Derived.Test.YtfijhbfdkcajjaaGreatDoorSortAll
import Derived.Test.YtfijhbfdkcajjaaGreatDoorMacAll
-- Written by wip/tools/myprint.py (a print of the translation, turned). Not trusted: Lean checks it.
namespace Go.Proofs.YtfijhbfdkcajjaaGreatDoor.Pr
open Go.RowKit Go.Proofs.YtfijhbfdkcajjaaGreatDoorW.PrintWords Go.Proofs.YtfijhbfdkcajjaaGreatDoorW.PrintLast Go.Proofs.YtfijhbfdkcajjaaGreatDoorW.PrintMore
attribute [local go_sem] max2_int min2_int max_two min_two max_three min_three max_four min_four   -- for this text's walks alone
set_option linter.unusedVariables false
set_option linter.unusedSimpArgs false

/-! ### paymasterref12_Place: function 11 -/
mutual
def paymasterref12_Place.j0 : Nat → ByteArray → Int → List (S41) → List (S45) → Bool → Option ((List (S41)) × Int)
 | 0, _, _, _, _, _ => none
 | k + 1, x0, x1, x2, x3, x34 => if x34 = true then (some (([] : List (S41)), 2)) else ((paymasterref12_Many.f k x1).bind fun t426 => (if (IntKind.u64.wrap ((x3.length : Int))) > t426 then (some (([] : List (S41)), 111)) else ((paymasterref10_Sort.f k x3).bind fun t427 => (paymasterref12_Place.l0 k x0 x1 x2 t427 ([] : List (S41)) 0))))
def paymasterref12_Place.l0 : Nat → ByteArray → Int → List (S41) → List (S45) → List (S41) → Int → Option ((List (S41)) × Int)
 | 0, _, _, _, _, _, _ => none
 | k + 1, x0, x1, x2, x10, x11, x12 => if x12 < (x10.length : Int) then (if 0 ≤ x12 then ((paymasterref12_Find.f k x2 ((rd_T45 x10 x12).f0)).bind fun bt431 => (if bt431.2.2.2.2.2 = true then (if x11.length < 2513169434916 then (paymasterref12_Place.l0 k x0 x1 x2 x10 (x11 ++ [(⟨bt431.1, (⟨(rd_T45 x10 x12).f1.f0, (rd_T45 x10 x12).f1.f1⟩ : S39), bt431.2.2.2.1, bt431.2.2.2.2.1⟩ : S41)]) (wrap64 (x12 + 1))) else (none)) else (paymasterref12_Place.l0 k x0 x1 x2 x10 x11 (wrap64 (x12 + 1))))) else (none)) else (paymasterref12_Place.l1 k x0 x1 x2 x10 x11 0)
def paymasterref12_Place.l1 : Nat → ByteArray → Int → List (S41) → List (S45) → List (S41) → Int → Option ((List (S41)) × Int)
 | 0, _, _, _, _, _, _ => none
 | k + 1, x0, x1, x2, x10, x11, x15 => if x15 < (x10.length : Int) then (if 0 ≤ x15 then ((paymasterref12_Find.f k x2 ((rd_T45 x10 x15).f0)).bind fun bt446 => (if bt446.2.2.2.2.2 = true then (paymasterref12_Place.l1 k x0 x1 x2 x10 x11 (wrap64 (x15 + 1))) else ((paymasterref07_First.f k x0 ((rd_T45 x10 x15).f0) x1).bind fun t454 => ((paymasterref12_Free.f k x11 x1 t454).bind fun bt455 => ((paymasterref07_Salt.f k x0 ((rd_T45 x10 x15).f0)).bind fun t460 => (if x11.length < 2513169434916 then (paymasterref12_Place.l1 k x0 x1 x2 x10 (x11 ++ [(⟨(rd_T45 x10 x15).f0, (⟨(rd_T45 x10 x15).f1.f0, (rd_T45 x10 x15).f1.f1⟩ : S39), t460, bt455.1⟩ : S41)]) (wrap64 (x15 + 1))) else (none))))))) else (none)) else ((paymasterref12_Sort.f k x11).bind fun t442 => (some (t442, 0)))
end
def paymasterref12_Place.f (k : Nat) (a0 : ByteArray) (a1 : Int) (l2 : List (S41)) (l3 : List (S45)) : Option ((List (S41)) × Int) := (paymasterref12_High.f a1).bind fun t423 => (if t423 = true then (if (a0.size : Int) > 64 then (some (([] : List (S41)), 3)) else ((paymasterref12_May.f k l2 a1).bind fun t424 => (if t424 = true then ((paymasterref12_rowed.f k l3).bind fun t425 => (paymasterref12_Place.j0 k a0 a1 l2 l3 (!t425))) else (paymasterref12_Place.j0 k a0 a1 l2 l3 true)))) else (some (([] : List (S41)), 120)))
def paymasterref12_Place.T24 : Bool × List (List Nat × List Nat) := (true, [([], []), ([], []), ([], []), ([1, 2], [1, 2]), ([3], [3]), ([4], [4]), ([], []), ([], []), ([6, 7], [6, 7]), ([8], [8]), ([9], [9]), ([], []), ([], []), ([], []), ([12, 13], [12, 13]), ([14], [14]), ([15], [15]), ([11, 16], [11, 16]), ([], []), ([5, 10, 17, 18], [5, 10, 17, 18]), ([19], [19]), ([0, 20, 17], [0, 20]), ([21, 21, 0, 1, 2, 3, 4, 5, 6, 7, 8, 9, 10, 11, 12, 13, 14, 15, 16, 17, 18, 19, 20, 21], [0, 21])])
def paymasterref12_Place.B24 : List Nat := [0, 0, 0, 6, 14, 30, 0, 0, 192, 448, 960, 0, 0, 0, 12288, 28672, 61440, 129024, 0, 524286, 1048574, 2097151, 4194303]
theorem paymasterref12_Place.tab24 : rtab .any (opsOf Tryz.f11 24) = paymasterref12_Place.T24 := by kernel_rfl
theorem paymasterref12_Place.bits24 : waitsOk paymasterref12_Place.T24.2 paymasterref12_Place.B24 = true := by kernel_rfl
set_option maxHeartbeats 60000000 in
set_option maxRecDepth 100000 in
theorem paymasterref12_Place.calls (k : Nat) (a0 : ByteArray) (a1 : Int) (A2 : Option Addr) (c2 : Nat) (l2 : List (S41)) (A3 : Option Addr) (c3 : Nat) (l3 : List (S45)) (r1 : List (S41)) (r2 : Int) (w : World) (hr2 : Kd.C k41 w A2 l2.length l2) (hc2 : l2.length ≤ c2) (hr3 : Kd.C k45 w A3 l3.length l3) (hc3 : l3.length ≤ c3) (h : paymasterref12_Place.f k a0 a1 l2 l3 = some (r1, r2)) :
 Calls Tryz.prog 11 #[.string a0, .int .i64 a1, .slice A2 l2.length c2, .slice A3 l3.length c3] w fun e w' => ∃ v0_ : Value, e = .returned (.tuple #[v0_, .int .i64 r2]) ∧ Kd.R k41 41 w' w.heap.size (fun _ => True) v0_ r1 ∧ Below w.heap.size w w' := by
 have hu41 := Tryz.underlying41
 have hu39 := Tryz.underlying39
 have HR2 := Aside0.mk hr2
 have HC2 := Aside0.mk hc2
 clear hr2 hc2
 have HR3 := Aside0.mk hr3
 have HC3 := Aside0.mk hc3
 clear hr3 hc3
 have HB := Aside0.mk (Below.refl w.heap.size w)
 have H : ((paymasterref12_High.f a1).bind fun t423 => (if t423 = true then (if (a0.size : Int) > 64 then (some (([] : List (S41)), 3)) else ((paymasterref12_May.f k l2 a1).bind fun t424 => (if t424 = true then ((paymasterref12_rowed.f k l3).bind fun t425 => (paymasterref12_Place.j0 k a0 a1 l2 l3 (!t425))) else (paymasterref12_Place.j0 k a0 a1 l2 l3 true)))) else (some (([] : List (S41)), 120)))) = some (r1, r2) := h
 clear h
 replace H := Option.bind_eq_some_iff.mp H
 obtain ⟨t423, A50, H⟩ := H
 (try dsimp only at H)
 have A5 := Aside0.mk A50
 clear A50
 by_cases c6 : t423 = true
 ·subst c6
  rw [if_pos rfl] at H
  by_cases c7 : (a0.size : Int) > 64
  ·rw [if_pos c7] at H
   have c7b0 : decide (64 < (a0.size : Int)) = true := decide_eq_true c7
   have c7b1 : decide (64 < a0.size) = true := decide_eq_true (by omega)
   clear c7
   simp only [Option.some.injEq, Prod.mk.injEq] at H
   obtain ⟨rfl, rfl⟩ := H
   go_enter Tryz.func11, Tryz.ntmps11
   go_wp2_with (first | ((with_reducible refine gate_callee (f := 33) rfl ?_); refine goesL_ (some 21) rfl rfl Tryz.func33 (by kernel_rfl) rfl #[.int .i64 a1] rfl (by (try simp only [List.map_toArray, List.map_cons, List.map_nil]); first | done | rfl | (simp only [List.length_drop, List.length_take]; rfl)) ?_; (with_reducible refine (paymasterref12_High.calls a1 true _ A5.out).mono ?_); rintro e w' ⟨rfl, ⟨nd, rfl⟩⟩; refine ⟨_, rfl, ?_⟩))
   go_ret2
   exact ⟨_, by first | rfl | (simp [errW_none, errW_some] <;> rfl) | (simp [*, errW_none, errW_some] <;> rfl), by first | exact Kd.R_nil _ _ _ _ _ | exact Kd.N_nil _ _ _ _ _ | exact Kd.V_nil _ _ _ _ _ | exact Kd.Q_nil _ _ _ _ _ | exact Kd.S_nil _ _ _ _ _, by repeat (first | (with_reducible first | exact HB.out | apply below_alloc | apply pw_below_drewN | apply below_drew1) | exact HB.out)⟩
  ·rw [if_neg c7] at H
   have c7b0 : decide (64 < (a0.size : Int)) = false := decide_eq_false c7
   have c7b1 : decide (64 < a0.size) = false := decide_eq_false (by omega)
   clear c7
   have HC8 := Aside0.mk H
   clear H
   go_enter Tryz.func11, Tryz.ntmps11
   go_upto_region 5 with (first | ((with_reducible refine gate_callee (f := 33) rfl ?_); refine goesL_ (some 21) rfl rfl Tryz.func33 (by kernel_rfl) rfl #[.int .i64 a1] rfl (by (try simp only [List.map_toArray, List.map_cons, List.map_nil]); first | done | rfl | (simp only [List.length_drop, List.length_take]; rfl)) ?_; (with_reducible refine (paymasterref12_High.calls a1 true _ A5.out).mono ?_); rintro e w' ⟨rfl, ⟨nd, rfl⟩⟩; refine ⟨_, rfl, ?_⟩))
   (try simp only [Act.put, List.setIfInBounds_toArray, List.set_cons_zero, List.set_cons_succ])
   go_cut [34] (fun v34 wc => ∃ (kq : Nat) (x34_7 : Bool), v34 = .bool x34_7 ∧ Aside0 (paymasterref12_Place.j0 kq a0 a1 l2 l3 x34_7 = some (r1, r2)) ∧ Aside0 (kq ≤ k) ∧ Aside0 (Below w.heap.size w wc))
   case first =>
    have H := HC8.out
    clear HC8
    replace H := Option.bind_eq_some_iff.mp H
    obtain ⟨t424, A90, H⟩ := H
    (try dsimp only at H)
    have A9 := Aside0.mk A90
    clear A90
    by_cases c10 : t424 = true
    ·subst c10
     rw [if_pos rfl] at H
     replace H := Option.bind_eq_some_iff.mp H
     obtain ⟨t425, A110, H⟩ := H
     (try dsimp only at H)
     have A11 := Aside0.mk A110
     clear A110
     have H' := Aside0.mk H
     clear H
     go_wp2_with (first | ((with_reducible refine gate_callee (f := 34) rfl ?_); refine goesL_ (some 28) rfl rfl Tryz.func34 (by kernel_rfl) rfl #[.slice A2 l2.length c2, .int .i64 a1] rfl (by (try simp only [List.map_toArray, List.map_cons, List.map_nil]); first | done | rfl | (simp only [List.length_drop, List.length_take]; rfl)) ?_; (with_reducible refine (paymasterref12_May.calls k _ _ l2 a1 true _ ?side1 ?side2 A9.out).mono ?_); (case side1 => repeat (first | exact (Kd.C_below HR2.out HB.out) | (with_reducible refine Kd.C_alloc ?_ _) | (with_reducible refine Kd.C_drewN ?_ _) | (with_reducible refine Kd.C_drew ?_))); (case side2 => exact HC2.out); rintro e w' ⟨rfl, ⟨nd, rfl⟩⟩; refine ⟨_, rfl, ?_⟩) | (go_at_call 35; (with_reducible refine (paymasterref12_rowed.calls k _ _ l3 t425 _ ?side1 ?side2 A11.out).mono ?_); (case side1 => repeat (first | exact (Kd.C_below HR3.out (by repeat (first | (with_reducible first | exact HB.out | apply below_alloc | apply pw_below_drewN | apply below_drew1) | exact HB.out))) | (with_reducible refine Kd.C_alloc ?_ _) | (with_reducible refine Kd.C_drewN ?_ _) | (with_reducible refine Kd.C_drew ?_))); (case side2 => exact HC3.out); rintro e w' ⟨rfl, ⟨nd, rfl⟩⟩))
     go_meet
     case rel => exact ⟨_, (!t425), (by first | rfl | (simp; done) | (simp [*]; done)), H', ⟨by first | omega | exact Nat.le_refl _⟩, ⟨by repeat (first | (with_reducible first | exact HB.out | apply below_alloc | apply pw_below_drewN | apply below_drew1) | exact HB.out)⟩⟩
    ·replace c10 := Bool.eq_false_iff.mpr c10
     subst c10
     rw [if_neg (show ¬ (false = true) by decide)] at H
     have H' := Aside0.mk H
     clear H
     go_wp2_with (first | ((with_reducible refine gate_callee (f := 34) rfl ?_); refine goesL_ (some 28) rfl rfl Tryz.func34 (by kernel_rfl) rfl #[.slice A2 l2.length c2, .int .i64 a1] rfl (by (try simp only [List.map_toArray, List.map_cons, List.map_nil]); first | done | rfl | (simp only [List.length_drop, List.length_take]; rfl)) ?_; (with_reducible refine (paymasterref12_May.calls k _ _ l2 a1 false _ ?side1 ?side2 A9.out).mono ?_); (case side1 => repeat (first | exact (Kd.C_below HR2.out HB.out) | (with_reducible refine Kd.C_alloc ?_ _) | (with_reducible refine Kd.C_drewN ?_ _) | (with_reducible refine Kd.C_drew ?_))); (case side2 => exact HC2.out); rintro e w' ⟨rfl, ⟨nd, rfl⟩⟩; refine ⟨_, rfl, ?_⟩))
     go_meet
     case rel => exact ⟨_, (true), (by first | rfl | (simp; done) | (simp [*]; done)), H', ⟨by first | omega | exact Nat.le_refl _⟩, ⟨by repeat (first | (with_reducible first | exact HB.out | apply below_alloc | apply pw_below_drewN | apply below_drew1) | exact HB.out)⟩⟩
   case rest =>
    clear HC8
    try clear c1
    try clear c2
    try clear p2
    try clear c3
    try clear c6
    try clear c7
    try clear c7b0
    try clear c7b1
    try clear c10
    try clear c11
    obtain ⟨kq, x34_7, rfl, HA, HJ7, HB⟩ := hcut
    cases kq with
    | zero => exact absurd HA.out (by simp [paymasterref12_Place.j0])
    | succ kj7 =>
     have H := HA.out
     clear HA
     simp only [paymasterref12_Place.j0] at H
     by_cases c12 : x34_7 = true
     ·subst c12
      rw [if_pos rfl] at H
      simp only [Option.some.injEq, Prod.mk.injEq] at H
      obtain ⟨rfl, rfl⟩ := H
      go_wp2
      go_ret2
      exact ⟨_, by first | rfl | (simp [errW_none, errW_some] <;> rfl) | (simp [*, errW_none, errW_some] <;> rfl), by first | exact Kd.R_nil _ _ _ _ _ | exact Kd.N_nil _ _ _ _ _ | exact Kd.V_nil _ _ _ _ _ | exact Kd.Q_nil _ _ _ _ _ | exact Kd.S_nil _ _ _ _ _, by repeat (first | (with_reducible first | exact HB.out | apply below_alloc | apply pw_below_drewN | apply below_drew1) | exact HB.out)⟩
     ·replace c12 := Bool.eq_false_iff.mpr c12
      subst c12
      rw [if_neg (show ¬ (false = true) by decide)] at H
      replace H := Option.bind_eq_some_iff.mp H
      obtain ⟨t426, A130, H⟩ := H
      (try dsimp only at H)
      have A13 := Aside0.mk A130
      clear A130
      by_cases c14 : (IntKind.u64.wrap ((l3.length : Int))) > t426
      ·rw [if_pos c14] at H
       have c14b0 : decide (t426 < (IntKind.u64.wrap ((l3.length : Int)))) = true := decide_eq_true c14
       clear c14
       simp only [Option.some.injEq, Prod.mk.injEq] at H
       obtain ⟨rfl, rfl⟩ := H
       go_wp2_with (first | ((with_reducible refine gate_callee (f := 36) rfl ?_); refine goesL_ (some 39) rfl rfl Tryz.func36 (by kernel_rfl) rfl #[.int .i64 a1] rfl (by (try simp only [List.map_toArray, List.map_cons, List.map_nil]); first | done | rfl | (simp only [List.length_drop, List.length_take]; rfl)) ?_; (with_reducible refine (paymasterref12_Many.calls kj7 a1 t426 _ A13.out).mono ?_); rintro e w' ⟨rfl, ⟨nd, rfl⟩⟩; refine ⟨_, rfl, ?_⟩))
       go_ret2
       exact ⟨_, by first | rfl | (simp [errW_none, errW_some] <;> rfl) | (simp [*, errW_none, errW_some] <;> rfl), by first | exact Kd.R_nil _ _ _ _ _ | exact Kd.N_nil _ _ _ _ _ | exact Kd.V_nil _ _ _ _ _ | exact Kd.Q_nil _ _ _ _ _ | exact Kd.S_nil _ _ _ _ _, by repeat (first | (with_reducible first | exact HB.out | apply below_alloc | apply pw_below_drewN | apply below_drew1) | exact HB.out)⟩
      ·rw [if_neg c14] at H
       have c14b0 : decide (t426 < (IntKind.u64.wrap ((l3.length : Int)))) = false := decide_eq_false c14
       clear c14
       replace H := Option.bind_eq_some_iff.mp H
       obtain ⟨t427, A150, H⟩ := H
       (try dsimp only at H)
       have A15 := Aside0.mk A150
       clear A150
       have H' := Aside0.mk H
       clear H
       go_wp2_with (first | ((with_reducible refine gate_callee (f := 36) rfl ?_); refine goesL_ (some 39) rfl rfl Tryz.func36 (by kernel_rfl) rfl #[.int .i64 a1] rfl (by (try simp only [List.map_toArray, List.map_cons, List.map_nil]); first | done | rfl | (simp only [List.length_drop, List.length_take]; rfl)) ?_; (with_reducible refine (paymasterref12_Many.calls kj7 a1 t426 _ A13.out).mono ?_); rintro e w' ⟨rfl, ⟨nd, rfl⟩⟩; refine ⟨_, rfl, ?_⟩) | ((with_reducible refine gate_callee (f := 37) rfl ?_); refine goesL_ (some 42) rfl rfl Tryz.func37 (by kernel_rfl) rfl #[.slice A3 l3.length c3] rfl (by (try simp only [List.map_toArray, List.map_cons, List.map_nil]); first | done | rfl | (simp only [List.length_drop, List.length_take]; rfl)) ?_; (with_reducible refine (paymasterref10_Sort.calls kj7 _ _ l3 t427 _ ?side1 ?side2 A15.out).mono ?_); (case side1 => repeat (first | exact (Kd.C_below HR3.out (by repeat (first | (with_reducible first | exact HB.out | apply below_alloc | apply pw_below_drewN | apply below_drew1) | exact HB.out))) | (with_reducible refine Kd.C_alloc ?_ _) | (with_reducible refine Kd.C_drewN ?_ _) | (with_reducible refine Kd.C_drew ?_))); (case side2 => exact HC3.out); rintro e w16 ⟨v428, rfl, ho0, hb⟩; refine ⟨_, rfl, ?_⟩; have n0_ := Aside0.mk (Kd.R_lower ho0 (below_size (by repeat (first | (with_reducible first | exact HB.out | apply below_alloc | apply pw_below_drewN | apply below_drew1) | exact HB.out)))); have n1_ := Aside0.mk (below_step (by repeat (first | (with_reducible first | exact HB.out | apply below_alloc | apply pw_below_drewN | apply below_drew1) | exact HB.out)) hb); clear HB; have HO429 := n0_; have HB := n1_; clear n0_ n1_; (try clear hb); (try clear hb2); (try clear hk); (try clear hi); (try clear ho0)))
       go_loopg [11, 12] kj7 (fun kq v11 v12 w' => ∃ (x11_2 : List (S41)) (x12_2 : Int), v12 = .int .i64 x12_2 ∧ Aside0 (paymasterref12_Place.l0 kq a0 a1 l2 t427 x11_2 x12_2 = some (r1, r2)) ∧ Aside0 (kq ≤ kj7) ∧ Aside0 (Kd.R k45 45 w' w.heap.size (fun _ => True) v428 t427) ∧ Aside0 (Kd.R k41 41 w' w.heap.size (fun _ => True) v11 x11_2) ∧ Aside0 (Below w.heap.size w w'))
       case atStart => exact ⟨(([] : List (S41))), (0), (by first | rfl | (simp; done) | (simp [*]; done)), H', ⟨Nat.le_refl _⟩, ⟨by (with_reducible repeat (first | apply Kd.R_alloc | apply Kd.R_drewN | apply Kd.R_drew)); exact HO429.out⟩, ⟨by first | exact Kd.R_nil _ _ _ _ _ | exact Kd.N_nil _ _ _ _ _ | exact Kd.V_nil _ _ _ _ _ | exact Kd.Q_nil _ _ _ _ _ | exact Kd.S_nil _ _ _ _ _⟩, ⟨by repeat (first | (with_reducible first | exact HB.out | apply below_alloc | apply pw_below_drewN | apply below_drew1) | exact HB.out)⟩⟩
       case round =>
        clear H'
        try clear c1
        try clear c2
        try clear p2
        try clear c3
        try clear c6
        try clear c7
        try clear c7b0
        try clear c7b1
        try clear c10
        try clear c11
        try clear c12
        try clear c14
        try clear c14b0
        try clear p2
        obtain ⟨x11_2, x12_2, rfl, HA, HK2, HO_10, HO_11, HB⟩ := hrel
        cases gk with
        | zero => exact absurd HA.out (by simp [paymasterref12_Place.l0])
        | succ k2 =>
         have H := HA.out
         clear HA
         simp only [paymasterref12_Place.l0] at H
         by_cases c17 : x12_2 < (t427.length : Int)
         ·rw [if_pos c17] at H
          have c17b0 : decide (x12_2 < (t427.length : Int)) = true := decide_eq_true c17
          clear c17
          by_cases c18 : 0 ≤ x12_2
          ·rw [if_pos c18] at H
           have c18b0 : decide (0 ≤ x12_2) = true := decide_eq_true c18
           clear c18
           replace H := Option.bind_eq_some_iff.mp H
           obtain ⟨⟨t431, t432, t433, t434, t435, t436⟩, A190, H⟩ := H
           (try dsimp only at H)
           have A19 := Aside0.mk A190
           clear A190
           by_cases c20 : t436 = true
           ·subst c20
            rw [if_pos rfl] at H
            by_cases c21 : x11_2.length < 2513169434916
            ·rw [if_pos c21] at H
             have LMc21 := Aside0.mk c21
             clear c21
             obtain ⟨y439, hy439⟩ : ∃ y_ : List (S41), y_ = (x11_2 ++ [(⟨t431, (⟨(rd_T45 t427 x12_2).f1.f0, (rd_T45 t427 x12_2).f1.f1⟩ : S39), t434, t435⟩ : S41)]) := ⟨_, rfl⟩
             replace H : (paymasterref12_Place.l0 k2 a0 a1 l2 t427 y439 (wrap64 (x12_2 + 1))) = some (r1, r2) := by first | (rw [hy439]; with_reducible exact H) | (have H2_ := (Option.bind_some _ _).symm.trans H; rw [hy439]; with_reducible exact H2_) | (have H2_ := (Option.bind_some _ _).symm.trans H; with_reducible exact H2_) | with_reducible exact H | (rw [hy439]; exact H) | exact H
             have Ny439 := Aside0.mk hy439
             clear hy439
             have H' := Aside0.mk H
             clear H
             obtain ⟨Ao22, co22, eo22⟩ := Kd.R_slice HO_10.out
             subst eo22
             have p430 : 0 ≤ (x12_2 : Int) := of_decide_eq_true (by first | (with_reducible assumption) | assumption)
             have q430 : x12_2 < (t427.length : Int) := of_decide_eq_true (by first | (with_reducible assumption) | assumption)
             obtain ⟨ad430, e430, hx430_0, hx430_1, hx430_2⟩ := at_T45 (Kd.R_reads' HO_10.out).2.2 x12_2 p430 q430
             cases e430
             replace p430 := eq_true p430
             replace q430 := eq_true q430
             go_wp2_with (first | ((with_reducible refine gate_callee (f := 38) rfl ?_); refine goesL_ (some 56) rfl rfl Tryz.func38 (by kernel_rfl) rfl #[.slice A2 l2.length c2, .string ((rd_T45 t427 x12_2).f0)] rfl (by (try simp only [List.map_toArray, List.map_cons, List.map_nil]); first | done | rfl | (simp only [List.length_drop, List.length_take]; rfl)) ?_; (with_reducible refine (paymasterref12_Find.calls k2 _ _ l2 ((rd_T45 t427 x12_2).f0) t431 t432 t433 t434 t435 true _ ?side1 ?side2 A19.out).mono ?_); (case side1 => repeat (first | exact (Kd.C_below HR2.out HB.out) | (with_reducible refine Kd.C_alloc ?_ _) | (with_reducible refine Kd.C_drewN ?_ _) | (with_reducible refine Kd.C_drew ?_))); (case side2 => exact HC2.out); rintro e w23 ⟨rfl, hb⟩; refine ⟨_, rfl, ?_⟩; have hv0 := (hb.cell (World.block_lt_of_cell? _ _ hx430_0)).trans hx430_0; have hz430_0 := (World.cell?_alloc_lt w23 (.cells #[.string t431, .int .u64 t432, .int .u64 t433, .string t434, .int .u64 t435] 41) _ (World.block_lt_of_cell? _ _ hv0)).trans hv0; clear hv0; have hv1 := (hb.cell (World.block_lt_of_cell? _ _ hx430_1)).trans hx430_1; have hz430_1 := (World.cell?_alloc_lt w23 (.cells #[.string t431, .int .u64 t432, .int .u64 t433, .string t434, .int .u64 t435] 41) _ (World.block_lt_of_cell? _ _ hv1)).trans hv1; clear hv1; have hv2 := (hb.cell (World.block_lt_of_cell? _ _ hx430_2)).trans hx430_2; have hz430_2 := (World.cell?_alloc_lt w23 (.cells #[.string t431, .int .u64 t432, .int .u64 t433, .string t434, .int .u64 t435] 41) _ (World.block_lt_of_cell? _ _ hv2)).trans hv2; clear hv2; have n0_ := Aside0.mk (Kd.R_below (by (with_reducible repeat (first | apply Kd.R_alloc | apply Kd.R_drewN | apply Kd.R_drew)); exact HO_10.out) hb); have n1_ := Aside0.mk (Kd.R_below (by (with_reducible repeat (first | apply Kd.R_alloc | apply Kd.R_drewN | apply Kd.R_drew)); exact HO_11.out) hb); have n2_ := Aside0.mk (below_step (by repeat (first | (with_reducible first | exact HB.out | apply below_alloc | apply pw_below_drewN | apply below_drew1) | exact HB.out)) hb); clear HO_10; clear HO_11; clear HB; have HO_10 := n0_; have HO_11 := n1_; have HB := n2_; clear n0_ n1_ n2_; (try clear hb); (try clear hb2); (try clear hk); (try clear hi)) | ((with_reducible refine gate_builtin (b := .append) (xs := #[.tmp 66, .tmp 68]) rfl ?_); at_builtin; refine Kd.R_append k41 (w0 := w) w.heap.size rfl (.tmp 66) (.tmp 68) 22 41 (.agg #[(.string ⟨#[]⟩), (.int .u64 0), (.int .u64 0), (.string ⟨#[]⟩), (.int .u64 0)]) 56 rfl Tryz.underlying22 info41 rfl (by decide) (by omega) u11 x11_2 (⟨t431, (⟨(rd_T45 t427 x12_2).f1.f0, (rd_T45 t427 x12_2).f1.f1⟩ : S39), t434, t435⟩ : S41) [.string t431, .int .u64 ((rd_T45 t427 x12_2).f1.f0), .int .u64 ((rd_T45 t427 x12_2).f1.f1), .string t434, .int .u64 t435] (fun _ => True) (fun _ => False) rfl (by first | (go_simp; done) | (go_simp; rfl)) ?aP (fun _ hk => hk.elim) (fun _ _ => trivial) ?aO ?aB ?aS ?aL ?_; (case aP => exact k41_mkM _ _ _ (⟨t431, (⟨(rd_T45 t427 x12_2).f1.f0, (rd_T45 t427 x12_2).f1.f1⟩ : S39), t434, t435⟩ : S41)); (case aB => exact (by repeat (first | (with_reducible first | exact HB.out | apply below_alloc | apply pw_below_drewN | apply below_drew1) | exact HB.out))); (case aO => exact (by (with_reducible repeat (first | apply Kd.R_alloc | apply Kd.R_drewN | apply Kd.R_drew)); exact HO_11.out)); (case aS => exact (below_size (by repeat (first | (with_reducible first | exact HB.out | apply below_alloc | apply pw_below_drewN | apply below_drew1) | exact HB.out)))); (case aL => have := LMc21.out; omega); intro v440 w26 ho hb hg hat; rw [← Ny439.out] at ho; have n0_ := Aside0.mk (Kd.R_over' (by (with_reducible repeat (first | apply Kd.R_alloc | apply Kd.R_drewN | apply Kd.R_drew)); exact HO_10.out) (Kd.R_typed (by (with_reducible repeat (first | apply Kd.R_alloc | apply Kd.R_drewN | apply Kd.R_drew)); exact HO_11.out)) (by decide) hg); have n2_ := Aside0.mk (hb); have n3_ := Aside0.mk (ho); clear HO_10; clear HB; clear HO_11; have HO_10 := n0_; have HB := n2_; have HO441 := n3_; clear n0_ n2_ n3_; clear ho hb hg hat))
             go_roundg k2
             case measure => have := HJ7.out; have := HK2.out; omega
             case rel => exact ⟨(y439), (wrap64 (x12_2 + 1)), (by first | rfl | (simp; done) | (simp [*]; done)), H', ⟨by have := HJ7.out; have := HK2.out; omega⟩, ⟨by (with_reducible repeat (first | apply Kd.R_alloc | apply Kd.R_drewN | apply Kd.R_drew)); exact HO_10.out⟩, ⟨by (with_reducible repeat (first | apply Kd.R_alloc | apply Kd.R_drewN | apply Kd.R_drew)); exact Kd.R_mono HO441.out (fun _ hk => trivial)⟩, ⟨by repeat (first | (with_reducible first | exact HB.out | apply below_alloc | apply pw_below_drewN | apply below_drew1) | exact HB.out)⟩⟩
            ·rw [if_neg c21] at H
             exact absurd H (by simp)
           ·replace c20 := Bool.eq_false_iff.mpr c20
            subst c20
            rw [if_neg (show ¬ (false = true) by decide)] at H
            have H' := Aside0.mk H
            clear H
            obtain ⟨Ao27, co27, eo27⟩ := Kd.R_slice HO_10.out
            subst eo27
            have p430 : 0 ≤ (x12_2 : Int) := of_decide_eq_true (by first | (with_reducible assumption) | assumption)
            have q430 : x12_2 < (t427.length : Int) := of_decide_eq_true (by first | (with_reducible assumption) | assumption)
            obtain ⟨ad430, e430, hx430_0, hx430_1, hx430_2⟩ := at_T45 (Kd.R_reads' HO_10.out).2.2 x12_2 p430 q430
            cases e430
            replace p430 := eq_true p430
            replace q430 := eq_true q430
            go_wp2_with (first | ((with_reducible refine gate_callee (f := 38) rfl ?_); refine goesL_ (some 56) rfl rfl Tryz.func38 (by kernel_rfl) rfl #[.slice A2 l2.length c2, .string ((rd_T45 t427 x12_2).f0)] rfl (by (try simp only [List.map_toArray, List.map_cons, List.map_nil]); first | done | rfl | (simp only [List.length_drop, List.length_take]; rfl)) ?_; (with_reducible refine (paymasterref12_Find.calls k2 _ _ l2 ((rd_T45 t427 x12_2).f0) t431 t432 t433 t434 t435 false _ ?side1 ?side2 A19.out).mono ?_); (case side1 => repeat (first | exact (Kd.C_below HR2.out HB.out) | (with_reducible refine Kd.C_alloc ?_ _) | (with_reducible refine Kd.C_drewN ?_ _) | (with_reducible refine Kd.C_drew ?_))); (case side2 => exact HC2.out); rintro e w28 ⟨rfl, hb⟩; refine ⟨_, rfl, ?_⟩; have n0_ := Aside0.mk (Kd.R_below (by (with_reducible repeat (first | apply Kd.R_alloc | apply Kd.R_drewN | apply Kd.R_drew)); exact HO_10.out) hb); have n1_ := Aside0.mk (Kd.R_below (by (with_reducible repeat (first | apply Kd.R_alloc | apply Kd.R_drewN | apply Kd.R_drew)); exact HO_11.out) hb); have n2_ := Aside0.mk (below_step (by repeat (first | (with_reducible first | exact HB.out | apply below_alloc | apply pw_below_drewN | apply below_drew1) | exact HB.out)) hb); clear HO_10; clear HO_11; clear HB; have HO_10 := n0_; have HO_11 := n1_; have HB := n2_; clear n0_ n1_ n2_; (try clear hb); (try clear hb2); (try clear hk); (try clear hi)) | ((with_reducible refine gate_dst (N := 13) rfl ?_); refine box_event ?hg (N := 13) ?hd (cs := #[.string (⟨#[]⟩ : ByteArray), .int .u64 0, .int .u64 0, .string (⟨#[]⟩ : ByteArray), .int .u64 0]) (t := 41) ?hr ?_; (case hd => rfl); (case hg => rfl); (case hr => first | (go_simp; done) | (go_simp; rfl)); intro gb437 hg w29 hbox hb; have n0_ := Aside0.mk (Kd.R_below (by (with_reducible repeat (first | apply Kd.R_alloc | apply Kd.R_drewN | apply Kd.R_drew)); exact HO_10.out) hb); have n1_ := Aside0.mk (Kd.R_below (Kd.R_elderB (by (with_reducible repeat (first | apply Kd.R_alloc | apply Kd.R_drewN | apply Kd.R_drew)); exact HO_11.out) gb437 (Nat.le_of_eq hg.symm)) hb); have n2_ := Aside0.mk (below_step (by repeat (first | (with_reducible first | exact HB.out | apply below_alloc | apply pw_below_drewN | apply below_drew1) | exact HB.out)) hb); have n3_ := Aside0.mk (hbox); have n4_ := Aside0.mk ((by rw [hg]; exact (below_size (by repeat (first | (with_reducible first | exact HB.out | apply below_alloc | apply pw_below_drewN | apply below_drew1) | exact HB.out))) : w.heap.size ≤ gb437)); have n5_ := Aside0.mk ((by rw [hg]; exact (below_size (by repeat (first | (with_reducible first | exact HB.out | apply below_alloc | apply pw_below_drewN | apply below_drew1) | exact HB.out))) : w.heap.size ≤ gb437)); clear HO_10; clear HO_11; clear HB; have HO_10 := n0_; have HO_11 := n1_; have HB := n2_; have BK437 := n3_; have GW437 := n4_; have GE437 := n5_; clear n0_ n1_ n2_ n3_ n4_ n5_; clear hb hbox hg; have hcz30_0 : w29.cell? ⟨gb437, 0, none⟩ = some (.string (⟨#[]⟩ : ByteArray)) := (blk_cell BK437.out 0).trans rfl; have hcz30_1 : w29.cell? ⟨gb437, 1, none⟩ = some (.int .u64 0) := (blk_cell BK437.out 1).trans rfl; have hcz30_2 : w29.cell? ⟨gb437, 2, none⟩ = some (.int .u64 0) := (blk_cell BK437.out 2).trans rfl; have hcz30_3 : w29.cell? ⟨gb437, 3, none⟩ = some (.string (⟨#[]⟩ : ByteArray)) := (blk_cell BK437.out 3).trans rfl; have hcz30_4 : w29.cell? ⟨gb437, 4, none⟩ = some (.int .u64 0) := (blk_cell BK437.out 4).trans rfl; have hfz30_0 := blk_frozen BK437.out 0; have hfz30_1 := blk_frozen BK437.out 1; have hfz30_2 := blk_frozen BK437.out 2; have hfz30_3 := blk_frozen BK437.out 3; have hfz30_4 := blk_frozen BK437.out 4))
            go_roundg k2
            case measure => have := HJ7.out; have := HK2.out; omega
            case rel => exact ⟨(x11_2), (wrap64 (x12_2 + 1)), (by first | rfl | (simp; done) | (simp [*]; done)), H', ⟨by have := HJ7.out; have := HK2.out; omega⟩, ⟨by (with_reducible repeat (first | apply Kd.R_alloc | apply Kd.R_drewN | apply Kd.R_drew)); exact Kd.R_mono (Kd.R_far (p := ⟨gb437, 4, none⟩) (Kd.R_far (p := ⟨gb437, 3, none⟩) (Kd.R_far (p := ⟨gb437, 2, none⟩) (Kd.R_far (p := ⟨gb437, 1, none⟩) (Kd.R_far (p := ⟨gb437, 0, none⟩) (Kd.R_types HO_10.out BK437.out (by decide)) (fun _ hk => hk.2) (.string t431)) (fun _ hk => hk.2) (.int .u64 t432)) (fun _ hk => hk.2) (.int .u64 t433)) (fun _ hk => hk.2) (.string t434)) (fun _ hk => hk.2) (.int .u64 t435)) (fun _ hk => trivial)⟩, ⟨by (with_reducible repeat (first | apply Kd.R_alloc | apply Kd.R_drewN | apply Kd.R_drew)); exact Kd.R_mono (Kd.R_far (p := ⟨gb437, 4, none⟩) (Kd.R_far (p := ⟨gb437, 3, none⟩) (Kd.R_far (p := ⟨gb437, 2, none⟩) (Kd.R_far (p := ⟨gb437, 1, none⟩) (Kd.R_far (p := ⟨gb437, 0, none⟩) (Kd.R_mono HO_11.out (fun k_ hk => (⟨hk, hk.2⟩ : _ ∧ k_ ≠ gb437))) (fun _ hk => hk.2) (.string t431)) (fun _ hk => hk.2) (.int .u64 t432)) (fun _ hk => hk.2) (.int .u64 t433)) (fun _ hk => hk.2) (.string t434)) (fun _ hk => hk.2) (.int .u64 t435)) (fun _ hk => trivial)⟩, ⟨by repeat (first | (with_reducible first | exact HB.out | apply below_alloc | apply pw_below_drewN | apply below_drew1 | refine below_set ?_ GE437.out) | exact HB.out)⟩⟩
          ·rw [if_neg c18] at H
           exact absurd H (by simp)
         ·rw [if_neg c17] at H
          have c17b0 : decide (x12_2 < (t427.length : Int)) = false := decide_eq_false c17
          clear c17
          have H' := Aside0.mk H
          clear H
          obtain ⟨Ao31, co31, eo31⟩ := Kd.R_slice HO_10.out
          subst eo31
          go_wp2
          go_loopg [11, 15] k2 (fun kq v11 v15 w' => ∃ (x11_3 : List (S41)) (x15_3 : Int), v15 = .int .i64 x15_3 ∧ Aside0 (paymasterref12_Place.l1 kq a0 a1 l2 t427 x11_3 x15_3 = some (r1, r2)) ∧ Aside0 (kq ≤ k2) ∧ Aside0 (Kd.R k45 45 w' w.heap.size (fun _ => True) (.slice Ao31 t427.length co31) t427) ∧ Aside0 (Kd.R k41 41 w' w.heap.size (fun _ => True) v11 x11_3) ∧ Aside0 (Below w.heap.size w w'))
          case atStart => exact ⟨(x11_2), (0), (by first | rfl | (simp; done) | (simp [*]; done)), H', ⟨Nat.le_refl _⟩, ⟨by (with_reducible repeat (first | apply Kd.R_alloc | apply Kd.R_drewN | apply Kd.R_drew)); exact HO_10.out⟩, ⟨by (with_reducible repeat (first | apply Kd.R_alloc | apply Kd.R_drewN | apply Kd.R_drew)); exact HO_11.out⟩, ⟨by repeat (first | (with_reducible first | exact HB.out | apply below_alloc | apply pw_below_drewN | apply below_drew1) | exact HB.out)⟩⟩
          case round =>
           clear H'
           try clear c1
           try clear c2
           try clear p2
           try clear c3
           try clear p4
           try clear q4
           try clear hx4
           try clear c6
           try clear p6
           try clear c7
           try clear c7b0
           try clear c7b1
           try clear c10
           try clear c11
           try clear c12
           try clear c14
           try clear c14b0
           try clear c17
           try clear c17b0
           try clear c18
           try clear c18b0
           try clear c20
           try clear c21
           try clear hcz25_0
           try clear hcz25_1
           try clear hcz25_2
           try clear hcz25_3
           try clear hcz25_4
           try clear hcz30_0
           try clear hcz30_1
           try clear hcz30_2
           try clear hcz30_3
           try clear hcz30_4
           try clear hfz25_0
           try clear hfz25_1
           try clear hfz25_2
           try clear hfz25_3
           try clear hfz25_4
           try clear hfz30_0
           try clear hfz30_1
           try clear hfz30_2
           try clear hfz30_3
           try clear hfz30_4
           try clear hx430_0
           try clear hx430_1
           try clear hx430_2
           try clear hx438_0
           try clear hx438_1
           try clear hx438_2
           try clear p2
           try clear p430
           try clear p438
           try clear q430
           try clear q438
           obtain ⟨x11_3, x15_3, rfl, HA, HK3, HO_10, HO_11, HB⟩ := hrel
           cases gk with
           | zero => exact absurd HA.out (by simp [paymasterref12_Place.l1])
           | succ k3 =>
            have H := HA.out
            clear HA
            simp only [paymasterref12_Place.l1] at H
            by_cases c32 : x15_3 < (t427.length : Int)
            ·rw [if_pos c32] at H
             have c32b0 : decide (x15_3 < (t427.length : Int)) = true := decide_eq_true c32
             clear c32
             by_cases c33 : 0 ≤ x15_3
             ·rw [if_pos c33] at H
              have c33b0 : decide (0 ≤ x15_3) = true := decide_eq_true c33
              clear c33
              replace H := Option.bind_eq_some_iff.mp H
              obtain ⟨⟨t446, t447, t448, t449, t450, t451⟩, A340, H⟩ := H
              (try dsimp only at H)
              have A34 := Aside0.mk A340
              clear A340
              by_cases c35 : t451 = true
              ·subst c35
               rw [if_pos rfl] at H
               have H' := Aside0.mk H
               clear H
               have p445 : 0 ≤ (x15_3 : Int) := of_decide_eq_true (by first | (with_reducible assumption) | assumption)
               have q445 : x15_3 < (t427.length : Int) := of_decide_eq_true (by first | (with_reducible assumption) | assumption)
               obtain ⟨ad445, e445, hx445_0, hx445_1, hx445_2⟩ := at_T45 (Kd.R_reads' HO_10.out).2.2 x15_3 p445 q445
               cases e445
               replace p445 := eq_true p445
               replace q445 := eq_true q445
               go_wp2_with (first | ((with_reducible refine gate_callee (f := 38) rfl ?_); refine goesL_ (some 83) rfl rfl Tryz.func38 (by kernel_rfl) rfl #[.slice A2 l2.length c2, .string ((rd_T45 t427 x15_3).f0)] rfl (by (try simp only [List.map_toArray, List.map_cons, List.map_nil]); first | done | rfl | (simp only [List.length_drop, List.length_take]; rfl)) ?_; (with_reducible refine (paymasterref12_Find.calls k3 _ _ l2 ((rd_T45 t427 x15_3).f0) t446 t447 t448 t449 t450 true _ ?side1 ?side2 A34.out).mono ?_); (case side1 => repeat (first | exact (Kd.C_below HR2.out HB.out) | (with_reducible refine Kd.C_alloc ?_ _) | (with_reducible refine Kd.C_drewN ?_ _) | (with_reducible refine Kd.C_drew ?_))); (case side2 => exact HC2.out); rintro e w36 ⟨rfl, hb⟩; refine ⟨_, rfl, ?_⟩; have n0_ := Aside0.mk (Kd.R_below (by (with_reducible repeat (first | apply Kd.R_alloc | apply Kd.R_drewN | apply Kd.R_drew)); exact HO_10.out) hb); have n1_ := Aside0.mk (Kd.R_below (by (with_reducible repeat (first | apply Kd.R_alloc | apply Kd.R_drewN | apply Kd.R_drew)); exact HO_11.out) hb); have n2_ := Aside0.mk (below_step (by repeat (first | (with_reducible first | exact HB.out | apply below_alloc | apply pw_below_drewN | apply below_drew1) | exact HB.out)) hb); clear HO_10; clear HO_11; clear HB; have HO_10 := n0_; have HO_11 := n1_; have HB := n2_; clear n0_ n1_ n2_; (try clear hb); (try clear hb2); (try clear hk); (try clear hi)) | ((with_reducible refine gate_dst (N := 16) rfl ?_); refine box_event ?hg (N := 16) ?hd (cs := #[.string (⟨#[]⟩ : ByteArray), .int .u64 0, .int .u64 0, .string (⟨#[]⟩ : ByteArray), .int .u64 0]) (t := 41) ?hr ?_; (case hd => rfl); (case hg => rfl); (case hr => first | (go_simp; done) | (go_simp; rfl)); intro gb452 hg w37 hbox hb; have n0_ := Aside0.mk (Kd.R_below (by (with_reducible repeat (first | apply Kd.R_alloc | apply Kd.R_drewN | apply Kd.R_drew)); exact HO_10.out) hb); have n1_ := Aside0.mk (Kd.R_below (Kd.R_elderB (by (with_reducible repeat (first | apply Kd.R_alloc | apply Kd.R_drewN | apply Kd.R_drew)); exact HO_11.out) gb452 (Nat.le_of_eq hg.symm)) hb); have n2_ := Aside0.mk (below_step (by repeat (first | (with_reducible first | exact HB.out | apply below_alloc | apply pw_below_drewN | apply below_drew1) | exact HB.out)) hb); have n3_ := Aside0.mk (hbox); have n4_ := Aside0.mk ((by rw [hg]; exact (below_size (by repeat (first | (with_reducible first | exact HB.out | apply below_alloc | apply pw_below_drewN | apply below_drew1) | exact HB.out))) : w.heap.size ≤ gb452)); have n5_ := Aside0.mk ((by rw [hg]; exact (below_size (by repeat (first | (with_reducible first | exact HB.out | apply below_alloc | apply pw_below_drewN | apply below_drew1) | exact HB.out))) : w.heap.size ≤ gb452)); clear HO_10; clear HO_11; clear HB; have HO_10 := n0_; have HO_11 := n1_; have HB := n2_; have BK452 := n3_; have GW452 := n4_; have GE452 := n5_; clear n0_ n1_ n2_ n3_ n4_ n5_; clear hb hbox hg; have hcz38_0 : w37.cell? ⟨gb452, 0, none⟩ = some (.string (⟨#[]⟩ : ByteArray)) := (blk_cell BK452.out 0).trans rfl; have hcz38_1 : w37.cell? ⟨gb452, 1, none⟩ = some (.int .u64 0) := (blk_cell BK452.out 1).trans rfl; have hcz38_2 : w37.cell? ⟨gb452, 2, none⟩ = some (.int .u64 0) := (blk_cell BK452.out 2).trans rfl; have hcz38_3 : w37.cell? ⟨gb452, 3, none⟩ = some (.string (⟨#[]⟩ : ByteArray)) := (blk_cell BK452.out 3).trans rfl; have hcz38_4 : w37.cell? ⟨gb452, 4, none⟩ = some (.int .u64 0) := (blk_cell BK452.out 4).trans rfl; have hfz38_0 := blk_frozen BK452.out 0; have hfz38_1 := blk_frozen BK452.out 1; have hfz38_2 := blk_frozen BK452.out 2; have hfz38_3 := blk_frozen BK452.out 3; have hfz38_4 := blk_frozen BK452.out 4))
               go_roundg k3
               case measure => have := HJ7.out; have := HK2.out; have := HK3.out; omega
               case rel => exact ⟨(x11_3), (wrap64 (x15_3 + 1)), (by first | rfl | (simp; done) | (simp [*]; done)), H', ⟨by have := HJ7.out; have := HK2.out; have := HK3.out; omega⟩, ⟨by (with_reducible repeat (first | apply Kd.R_alloc | apply Kd.R_drewN | apply Kd.R_drew)); exact Kd.R_mono (Kd.R_far (p := ⟨gb452, 4, none⟩) (Kd.R_far (p := ⟨gb452, 3, none⟩) (Kd.R_far (p := ⟨gb452, 2, none⟩) (Kd.R_far (p := ⟨gb452, 1, none⟩) (Kd.R_far (p := ⟨gb452, 0, none⟩) (Kd.R_types HO_10.out BK452.out (by decide)) (fun _ hk => hk.2) (.string t446)) (fun _ hk => hk.2) (.int .u64 t447)) (fun _ hk => hk.2) (.int .u64 t448)) (fun _ hk => hk.2) (.string t449)) (fun _ hk => hk.2) (.int .u64 t450)) (fun _ hk => trivial)⟩, ⟨by (with_reducible repeat (first | apply Kd.R_alloc | apply Kd.R_drewN | apply Kd.R_drew)); exact Kd.R_mono (Kd.R_far (p := ⟨gb452, 4, none⟩) (Kd.R_far (p := ⟨gb452, 3, none⟩) (Kd.R_far (p := ⟨gb452, 2, none⟩) (Kd.R_far (p := ⟨gb452, 1, none⟩) (Kd.R_far (p := ⟨gb452, 0, none⟩) (Kd.R_mono HO_11.out (fun k_ hk => (⟨hk, hk.2⟩ : _ ∧ k_ ≠ gb452))) (fun _ hk => hk.2) (.string t446)) (fun _ hk => hk.2) (.int .u64 t447)) (fun _ hk => hk.2) (.int .u64 t448)) (fun _ hk => hk.2) (.string t449)) (fun _ hk => hk.2) (.int .u64 t450)) (fun _ hk => trivial)⟩, ⟨by repeat (first | (with_reducible first | exact HB.out | apply below_alloc | apply pw_below_drewN | apply below_drew1 | refine below_set ?_ GE452.out) | exact HB.out)⟩⟩
              ·replace c35 := Bool.eq_false_iff.mpr c35
               subst c35
               rw [if_neg (show ¬ (false = true) by decide)] at H
               replace H := Option.bind_eq_some_iff.mp H
               obtain ⟨t454, A390, H⟩ := H
               (try dsimp only at H)
               have A39 := Aside0.mk A390
               clear A390
               replace H := Option.bind_eq_some_iff.mp H
               obtain ⟨⟨t455, t456⟩, A400, H⟩ := H
               (try dsimp only at H)
               have A40 := Aside0.mk A400
               clear A400
               replace H := Option.bind_eq_some_iff.mp H
               obtain ⟨t460, A410, H⟩ := H
               (try dsimp only at H)
               have A41 := Aside0.mk A410
               clear A410
               by_cases c42 : x11_3.length < 2513169434916
               ·rw [if_pos c42] at H
                have LMc42 := Aside0.mk c42
                clear c42
                obtain ⟨y461, hy461⟩ : ∃ y_ : List (S41), y_ = (x11_3 ++ [(⟨(rd_T45 t427 x15_3).f0, (⟨(rd_T45 t427 x15_3).f1.f0, (rd_T45 t427 x15_3).f1.f1⟩ : S39), t460, t455⟩ : S41)]) := ⟨_, rfl⟩
                replace H : (paymasterref12_Place.l1 k3 a0 a1 l2 t427 y461 (wrap64 (x15_3 + 1))) = some (r1, r2) := by first | (rw [hy461]; with_reducible exact H) | (have H2_ := (Option.bind_some _ _).symm.trans H; rw [hy461]; with_reducible exact H2_) | (have H2_ := (Option.bind_some _ _).symm.trans H; with_reducible exact H2_) | with_reducible exact H | (rw [hy461]; exact H) | exact H
                have Ny461 := Aside0.mk hy461
                clear hy461
                have H' := Aside0.mk H
                clear H
                have p445 : 0 ≤ (x15_3 : Int) := of_decide_eq_true (by first | (with_reducible assumption) | assumption)
                have q445 : x15_3 < (t427.length : Int) := of_decide_eq_true (by first | (with_reducible assumption) | assumption)
                obtain ⟨ad445, e445, hx445_0, hx445_1, hx445_2⟩ := at_T45 (Kd.R_reads' HO_10.out).2.2 x15_3 p445 q445
                cases e445
                replace p445 := eq_true p445
                replace q445 := eq_true q445
                try go_wp2_with (first | ((with_reducible refine gate_callee (f := 38) rfl ?_); refine goesL_ (some 83) rfl rfl Tryz.func38 (by kernel_rfl) rfl #[.slice A2 l2.length c2, .string ((rd_T45 t427 x15_3).f0)] rfl (by (try simp only [List.map_toArray, List.map_cons, List.map_nil]); first | done | rfl | (simp only [List.length_drop, List.length_take]; rfl)) ?_; (with_reducible refine (paymasterref12_Find.calls k3 _ _ l2 ((rd_T45 t427 x15_3).f0) t446 t447 t448 t449 t450 false _ ?side1 ?side2 A34.out).mono ?_); (case side1 => repeat (first | exact (Kd.C_below HR2.out HB.out) | (with_reducible refine Kd.C_alloc ?_ _) | (with_reducible refine Kd.C_drewN ?_ _) | (with_reducible refine Kd.C_drew ?_))); (case side2 => exact HC2.out); rintro e w43 ⟨rfl, hb⟩; refine ⟨_, rfl, ?_⟩; have n0_ := Aside0.mk (Kd.R_below (by (with_reducible repeat (first | apply Kd.R_alloc | apply Kd.R_drewN | apply Kd.R_drew)); exact HO_10.out) hb); have n1_ := Aside0.mk (Kd.R_below (by (with_reducible repeat (first | apply Kd.R_alloc | apply Kd.R_drewN | apply Kd.R_drew)); exact HO_11.out) hb); have n2_ := Aside0.mk (below_step (by repeat (first | (with_reducible first | exact HB.out | apply below_alloc | apply pw_below_drewN | apply below_drew1) | exact HB.out)) hb); clear HO_10; clear HO_11; clear HB; have HO_10 := n0_; have HO_11 := n1_; have HB := n2_; clear n0_ n1_ n2_; (try clear hb); (try clear hb2); (try clear hk); (try clear hi)) | ((with_reducible refine gate_dst (N := 16) rfl ?_); refine box_event ?hg (N := 16) ?hd (cs := #[.string (⟨#[]⟩ : ByteArray), .int .u64 0, .int .u64 0, .string (⟨#[]⟩ : ByteArray), .int .u64 0]) (t := 41) ?hr ?_; (case hd => rfl); (case hg => rfl); (case hr => first | (go_simp; done) | (go_simp; rfl)); intro gb452 hg w44 hbox hb; have n0_ := Aside0.mk (Kd.R_below (by (with_reducible repeat (first | apply Kd.R_alloc | apply Kd.R_drewN | apply Kd.R_drew)); exact HO_10.out) hb); have n1_ := Aside0.mk (Kd.R_below (Kd.R_elderB (by (with_reducible repeat (first | apply Kd.R_alloc | apply Kd.R_drewN | apply Kd.R_drew)); exact HO_11.out) gb452 (Nat.le_of_eq hg.symm)) hb); have n2_ := Aside0.mk (below_step (by repeat (first | (with_reducible first | exact HB.out | apply below_alloc | apply pw_below_drewN | apply below_drew1) | exact HB.out)) hb); have n3_ := Aside0.mk (hbox); have n4_ := Aside0.mk ((by rw [hg]; exact (below_size (by repeat (first | (with_reducible first | exact HB.out | apply below_alloc | apply pw_below_drewN | apply below_drew1) | exact HB.out))) : w.heap.size ≤ gb452)); have n5_ := Aside0.mk ((by rw [hg]; exact (below_size (by repeat (first | (with_reducible first | exact HB.out | apply below_alloc | apply pw_below_drewN | apply below_drew1) | exact HB.out))) : w.heap.size ≤ gb452)); clear HO_10; clear HO_11; clear HB; have HO_10 := n0_; have HO_11 := n1_; have HB := n2_; have BK452 := n3_; have GW452 := n4_; have GE452 := n5_; clear n0_ n1_ n2_ n3_ n4_ n5_; clear hb hbox hg; have hcz45_0 : w44.cell? ⟨gb452, 0, none⟩ = some (.string (⟨#[]⟩ : ByteArray)) := (blk_cell BK452.out 0).trans rfl; have hcz45_1 : w44.cell? ⟨gb452, 1, none⟩ = some (.int .u64 0) := (blk_cell BK452.out 1).trans rfl; have hcz45_2 : w44.cell? ⟨gb452, 2, none⟩ = some (.int .u64 0) := (blk_cell BK452.out 2).trans rfl; have hcz45_3 : w44.cell? ⟨gb452, 3, none⟩ = some (.string (⟨#[]⟩ : ByteArray)) := (blk_cell BK452.out 3).trans rfl; have hcz45_4 : w44.cell? ⟨gb452, 4, none⟩ = some (.int .u64 0) := (blk_cell BK452.out 4).trans rfl; have hfz45_0 := blk_frozen BK452.out 0; have hfz45_1 := blk_frozen BK452.out 1; have hfz45_2 := blk_frozen BK452.out 2; have hfz45_3 := blk_frozen BK452.out 3; have hfz45_4 := blk_frozen BK452.out 4; have p453 : 0 ≤ (x15_3 : Int) := of_decide_eq_true (by first | (with_reducible assumption) | assumption); have q453 : x15_3 < (t427.length : Int) := of_decide_eq_true (by first | (with_reducible assumption) | assumption); obtain ⟨ad453, e453, hx453_0, hx453_1, hx453_2⟩ := at_T45 (Kd.R_reads' HO_10.out).2.2 x15_3 p453 q453; obtain rfl : ad445 = ad453 := (by injection e453); have hn453_0 : ad445.block ≠ gb452 := Kd.own_blk (Kd.R_ne HO_10.out BK452.out (by decide)); have hn453_1 : ad445.block ≠ gb452 := Kd.own_blk (Kd.R_ne HO_10.out BK452.out (by decide)); have hn453_2 : ad445.block ≠ gb452 := Kd.own_blk (Kd.R_ne HO_10.out BK452.out (by decide)); have hn453_3 : ad445.block ≠ gb452 := Kd.own_blk (Kd.R_ne HO_10.out BK452.out (by decide)); have hn453_4 : ad445.block ≠ gb452 := Kd.own_blk (Kd.R_ne HO_10.out BK452.out (by decide)); replace hx453_0 := (cell_far (p := ⟨gb452, 0, none⟩) (by first | (rw [add_block]; exact hn453_0) | (show (Addr.add _ _).block ≠ _; rw [add_block]; exact hn453_0) | exact hn453_0) (.string t446)).trans hx453_0; replace hx453_1 := (cell_far (p := ⟨gb452, 0, none⟩) (by first | (rw [add_block]; exact hn453_0) | (show (Addr.add _ _).block ≠ _; rw [add_block]; exact hn453_0) | exact hn453_0) (.string t446)).trans hx453_1; replace hx453_2 := (cell_far (p := ⟨gb452, 0, none⟩) (by first | (rw [add_block]; exact hn453_0) | (show (Addr.add _ _).block ≠ _; rw [add_block]; exact hn453_0) | exact hn453_0) (.string t446)).trans hx453_2; replace hx453_0 := (cell_far (p := ⟨gb452, 1, none⟩) (by first | (rw [add_block]; exact hn453_1) | (show (Addr.add _ _).block ≠ _; rw [add_block]; exact hn453_1) | exact hn453_1) (.int .u64 t447)).trans hx453_0; replace hx453_1 := (cell_far (p := ⟨gb452, 1, none⟩) (by first | (rw [add_block]; exact hn453_1) | (show (Addr.add _ _).block ≠ _; rw [add_block]; exact hn453_1) | exact hn453_1) (.int .u64 t447)).trans hx453_1; replace hx453_2 := (cell_far (p := ⟨gb452, 1, none⟩) (by first | (rw [add_block]; exact hn453_1) | (show (Addr.add _ _).block ≠ _; rw [add_block]; exact hn453_1) | exact hn453_1) (.int .u64 t447)).trans hx453_2; replace hx453_0 := (cell_far (p := ⟨gb452, 2, none⟩) (by first | (rw [add_block]; exact hn453_2) | (show (Addr.add _ _).block ≠ _; rw [add_block]; exact hn453_2) | exact hn453_2) (.int .u64 t448)).trans hx453_0; replace hx453_1 := (cell_far (p := ⟨gb452, 2, none⟩) (by first | (rw [add_block]; exact hn453_2) | (show (Addr.add _ _).block ≠ _; rw [add_block]; exact hn453_2) | exact hn453_2) (.int .u64 t448)).trans hx453_1; replace hx453_2 := (cell_far (p := ⟨gb452, 2, none⟩) (by first | (rw [add_block]; exact hn453_2) | (show (Addr.add _ _).block ≠ _; rw [add_block]; exact hn453_2) | exact hn453_2) (.int .u64 t448)).trans hx453_2; replace hx453_0 := (cell_far (p := ⟨gb452, 3, none⟩) (by first | (rw [add_block]; exact hn453_3) | (show (Addr.add _ _).block ≠ _; rw [add_block]; exact hn453_3) | exact hn453_3) (.string t449)).trans hx453_0; replace hx453_1 := (cell_far (p := ⟨gb452, 3, none⟩) (by first | (rw [add_block]; exact hn453_3) | (show (Addr.add _ _).block ≠ _; rw [add_block]; exact hn453_3) | exact hn453_3) (.string t449)).trans hx453_1; replace hx453_2 := (cell_far (p := ⟨gb452, 3, none⟩) (by first | (rw [add_block]; exact hn453_3) | (show (Addr.add _ _).block ≠ _; rw [add_block]; exact hn453_3) | exact hn453_3) (.string t449)).trans hx453_2; replace hx453_0 := (cell_far (p := ⟨gb452, 4, none⟩) (by first | (rw [add_block]; exact hn453_4) | (show (Addr.add _ _).block ≠ _; rw [add_block]; exact hn453_4) | exact hn453_4) (.int .u64 t450)).trans hx453_0; replace hx453_1 := (cell_far (p := ⟨gb452, 4, none⟩) (by first | (rw [add_block]; exact hn453_4) | (show (Addr.add _ _).block ≠ _; rw [add_block]; exact hn453_4) | exact hn453_4) (.int .u64 t450)).trans hx453_1; replace hx453_2 := (cell_far (p := ⟨gb452, 4, none⟩) (by first | (rw [add_block]; exact hn453_4) | (show (Addr.add _ _).block ≠ _; rw [add_block]; exact hn453_4) | exact hn453_4) (.int .u64 t450)).trans hx453_2; clear hn453_0; clear hn453_1; clear hn453_2; clear hn453_3; clear hn453_4; replace p453 := eq_true p453; replace q453 := eq_true q453) | ((with_reducible refine gate_callee (f := 40) rfl ?_); refine goesL_ (some 97) rfl rfl Tryz.func40 (by kernel_rfl) rfl #[.string a0, .string ((rd_T45 t427 x15_3).f0), .int .i64 a1] rfl (by (try simp only [List.map_toArray, List.map_cons, List.map_nil]); first | done | rfl | (simp only [List.length_drop, List.length_take]; rfl)) ?_; (with_reducible refine (paymasterref07_First.calls k3 a0 ((rd_T45 t427 x15_3).f0) a1 t454 _ A39.out).mono ?_); rintro e w46 ⟨rfl, hb⟩; refine ⟨_, rfl, ?_⟩; have n0_ := Aside0.mk (Kd.R_below (by (with_reducible repeat (first | apply Kd.R_alloc | apply Kd.R_drewN | apply Kd.R_drew)); exact (Kd.R_mono (Kd.R_far (p := ⟨gb452, 4, none⟩) (Kd.R_far (p := ⟨gb452, 3, none⟩) (Kd.R_far (p := ⟨gb452, 2, none⟩) (Kd.R_far (p := ⟨gb452, 1, none⟩) (Kd.R_far (p := ⟨gb452, 0, none⟩) (Kd.R_types HO_10.out BK452.out (by decide)) (fun _ hk => hk.2) (.string t446)) (fun _ hk => hk.2) (.int .u64 t447)) (fun _ hk => hk.2) (.int .u64 t448)) (fun _ hk => hk.2) (.string t449)) (fun _ hk => hk.2) (.int .u64 t450)) (fun _ h_ => h_.1))) hb); have n1_ := Aside0.mk (Kd.R_below (by (with_reducible repeat (first | apply Kd.R_alloc | apply Kd.R_drewN | apply Kd.R_drew)); exact (Kd.R_mono (Kd.R_far (p := ⟨gb452, 4, none⟩) (Kd.R_far (p := ⟨gb452, 3, none⟩) (Kd.R_far (p := ⟨gb452, 2, none⟩) (Kd.R_far (p := ⟨gb452, 1, none⟩) (Kd.R_far (p := ⟨gb452, 0, none⟩) (Kd.R_mono HO_11.out (fun k_ hk => (⟨hk, hk.2⟩ : _ ∧ k_ ≠ gb452))) (fun _ hk => hk.2) (.string t446)) (fun _ hk => hk.2) (.int .u64 t447)) (fun _ hk => hk.2) (.int .u64 t448)) (fun _ hk => hk.2) (.string t449)) (fun _ hk => hk.2) (.int .u64 t450)) (fun _ h_ => h_.1))) hb); have n2_ := Aside0.mk (blk_below (g := gb452) (o := .cells #[.string t446, .int .u64 t447, .int .u64 t448, .string t449, .int .u64 t450] 41 (0, 0)) (by (with_reducible repeat (first | refine blk_drewN ?_ _ | refine blk_drew ?_ | refine blk_alloc ?_ _)); refine blk_put (cs := #[.string t446, .int .u64 t447, .int .u64 t448, .string t449, .int .u64 0]) ?_ 4 _ rfl; (with_reducible repeat (first | refine blk_drewN ?_ _ | refine blk_drew ?_ | refine blk_alloc ?_ _)); refine blk_put (cs := #[.string t446, .int .u64 t447, .int .u64 t448, .string (⟨#[]⟩ : ByteArray), .int .u64 0]) ?_ 3 _ rfl; (with_reducible repeat (first | refine blk_drewN ?_ _ | refine blk_drew ?_ | refine blk_alloc ?_ _)); refine blk_put (cs := #[.string t446, .int .u64 t447, .int .u64 0, .string (⟨#[]⟩ : ByteArray), .int .u64 0]) ?_ 2 _ rfl; (with_reducible repeat (first | refine blk_drewN ?_ _ | refine blk_drew ?_ | refine blk_alloc ?_ _)); refine blk_put (cs := #[.string t446, .int .u64 0, .int .u64 0, .string (⟨#[]⟩ : ByteArray), .int .u64 0]) ?_ 1 _ rfl; (with_reducible repeat (first | refine blk_drewN ?_ _ | refine blk_drew ?_ | refine blk_alloc ?_ _)); refine blk_put (cs := #[.string (⟨#[]⟩ : ByteArray), .int .u64 0, .int .u64 0, .string (⟨#[]⟩ : ByteArray), .int .u64 0]) ?_ 0 _ rfl; (with_reducible repeat (first | refine blk_drewN ?_ _ | refine blk_drew ?_ | refine blk_alloc ?_ _)); exact BK452.out) hb); have n3_ := Aside0.mk (below_step (by repeat (first | (with_reducible first | exact HB.out | apply below_alloc | apply pw_below_drewN | apply below_drew1 | refine below_set ?_ GE452.out) | exact HB.out)) hb); clear HO_10; clear HO_11; clear BK452; clear HB; have HO_10 := n0_; have HO_11 := n1_; have BK452 := n2_; have HB := n3_; clear n0_ n1_ n2_ n3_; (try clear hb); (try clear hb2); (try clear hk); (try clear hi); obtain ⟨Ao47, co47, eo47⟩ := Kd.R_slice HO_11.out; subst eo47) | ((with_reducible refine gate_callee (f := 39) rfl ?_); refine goesL_ (some 98) rfl rfl Tryz.func39 (by kernel_rfl) rfl #[.slice Ao47 x11_3.length co47, .int .i64 a1, .int .u64 t454] rfl (by (try simp only [List.map_toArray, List.map_cons, List.map_nil]); first | done | rfl | (simp only [List.length_drop, List.length_take]; rfl)) ?_; (with_reducible refine (paymasterref12_Free.calls k3 _ _ x11_3 a1 t454 t455 t456 _ ?side1 ?side2 A40.out).mono ?_); (case side1 => repeat (first | exact (Kd.R_reads' HO_11.out).2.2 | (with_reducible refine Kd.C_alloc ?_ _) | (with_reducible refine Kd.C_drewN ?_ _) | (with_reducible refine Kd.C_drew ?_))); (case side2 => exact (Kd.R_reads' HO_11.out).2.1); rintro e w48 ⟨rfl, hb⟩; refine ⟨_, rfl, ?_⟩; have n0_ := Aside0.mk (Kd.R_below (by (with_reducible repeat (first | apply Kd.R_alloc | apply Kd.R_drewN | apply Kd.R_drew)); exact HO_10.out) hb); have n1_ := Aside0.mk (Kd.R_below (by (with_reducible repeat (first | apply Kd.R_alloc | apply Kd.R_drewN | apply Kd.R_drew)); exact HO_11.out) hb); have n2_ := Aside0.mk (blk_below (g := gb452) (o := .cells #[.string t446, .int .u64 t447, .int .u64 t448, .string t449, .int .u64 t450] 41 (0, 0)) (by (with_reducible repeat (first | refine blk_drewN ?_ _ | refine blk_drew ?_ | refine blk_alloc ?_ _)); exact BK452.out) hb); have n3_ := Aside0.mk (below_step (by repeat (first | (with_reducible first | exact HB.out | apply below_alloc | apply pw_below_drewN | apply below_drew1 | refine below_set ?_ GE452.out) | exact HB.out)) hb); clear HO_10; clear HO_11; clear BK452; clear HB; have HO_10 := n0_; have HO_11 := n1_; have BK452 := n2_; have HB := n3_; clear n0_ n1_ n2_ n3_; (try clear hb); (try clear hb2); (try clear hk); (try clear hi)))
                have n0_ := Aside0.mk (Kd.R_drew HO_10.out)
                have n1_ := Aside0.mk (Kd.R_drew HO_11.out)
                have n2_ := Aside0.mk (blk_drew BK452.out)
                have n3_ := Aside0.mk (below_drew1 HB.out)
                clear HO_10
                clear HO_11
                clear BK452
                clear HB
                have HO_10 := n0_
                have HO_11 := n1_
                have BK452 := n2_
                have HB := n3_
                clear n0_ n1_ n2_ n3_
                have p457 : 0 ≤ (x15_3 : Int) := of_decide_eq_true (by first | (with_reducible assumption) | assumption)
                have q457 : x15_3 < (t427.length : Int) := of_decide_eq_true (by first | (with_reducible assumption) | assumption)
                obtain ⟨ad457, e457, hx457_0, hx457_1, hx457_2⟩ := at_T45 (Kd.R_reads' HO_10.out).2.2 x15_3 p457 q457
                obtain rfl : ad445 = ad457 := (by injection e457)
                replace p457 := eq_true p457
                replace q457 := eq_true q457
                have p458 : 0 ≤ (x15_3 : Int) := of_decide_eq_true (by first | (with_reducible assumption) | assumption)
                have q458 : x15_3 < (t427.length : Int) := of_decide_eq_true (by first | (with_reducible assumption) | assumption)
                obtain ⟨ad458, e458, hx458_0, hx458_1, hx458_2⟩ := at_T45 (Kd.R_reads' HO_10.out).2.2 x15_3 p458 q458
                obtain rfl : ad445 = ad458 := (by injection e458)
                replace p458 := eq_true p458
                replace q458 := eq_true q458
                have p459 : 0 ≤ (x15_3 : Int) := of_decide_eq_true (by first | (with_reducible assumption) | assumption)
                have q459 : x15_3 < (t427.length : Int) := of_decide_eq_true (by first | (with_reducible assumption) | assumption)
                obtain ⟨ad459, e459, hx459_0, hx459_1, hx459_2⟩ := at_T45 (Kd.R_reads' HO_10.out).2.2 x15_3 p459 q459
                obtain rfl : ad445 = ad459 := (by injection e459)
                replace p459 := eq_true p459
                replace q459 := eq_true q459
                refine start_ (n := 23) (S := fun w' => w'.cell? (ad445.add ((x15_3).toNat * 3)) = some (.string ((rd_T45 t427 x15_3).f0)) ∧ w'.cell? ⟨(ad445.add ((x15_3).toNat * 3)).block, (ad445.add ((x15_3).toNat * 3)).off + 1, none⟩ = some (.int .u64 ((rd_T45 t427 x15_3).f1.f0)) ∧ w'.cell? ⟨(ad445.add ((x15_3).toNat * 3)).block, (ad445.add ((x15_3).toNat * 3)).off + 2, none⟩ = some (.int .u64 ((rd_T45 t427 x15_3).f1.f1)) ∧ w'.cell? (ad445.add ((x15_3).toNat * 3)) = some (.string ((rd_T45 t427 x15_3).f0)) ∧ w'.cell? ⟨(ad445.add ((x15_3).toNat * 3)).block, (ad445.add ((x15_3).toNat * 3)).off + 1, none⟩ = some (.int .u64 ((rd_T45 t427 x15_3).f1.f0)) ∧ w'.cell? ⟨(ad445.add ((x15_3).toNat * 3)).block, (ad445.add ((x15_3).toNat * 3)).off + 2, none⟩ = some (.int .u64 ((rd_T45 t427 x15_3).f1.f1)) ∧ w'.cell? (ad445.add ((x15_3).toNat * 3)) = some (.string ((rd_T45 t427 x15_3).f0)) ∧ w'.cell? ⟨(ad445.add ((x15_3).toNat * 3)).block, (ad445.add ((x15_3).toNat * 3)).off + 1, none⟩ = some (.int .u64 ((rd_T45 t427 x15_3).f1.f0)) ∧ w'.cell? ⟨(ad445.add ((x15_3).toNat * 3)).block, (ad445.add ((x15_3).toNat * 3)).off + 2, none⟩ = some (.int .u64 ((rd_T45 t427 x15_3).f1.f1))) (ds := [20, 21]) #[false, false, false, false, false, false, false, false, false, false, false, false, false, false, false, false, false, false, false, false, false, false, false] (by kernel_rfl) rfl rfl ⟨hx457_0, hx457_1, hx457_2, hx458_0, hx458_1, hx458_2, hx459_0, hx459_1, hx459_2⟩ (fun hHeld => ?_); refine with_tabW paymasterref12_Place.tab24 paymasterref12_Place.bits24 (fun HT_ HW_ => ?_)
                generalize w48.drew = w49 at HO_10 HO_11 BK452 HB hx457_0 hx457_1 hx457_2 hx458_0 hx458_1 hx458_2 hx459_0 hx459_1 hx459_2 hHeld ⊢
                refine p_ 0 (some 101) HT_ ?_
                refine p_ 1 (some 102) HT_ ?_
                refine p_ 2 (some 103) HT_ ?_
                refine p_ 3 (some 104) HT_ ?_
                refine p_ 4 (some 105) HT_ ?_
                refine p_ 6 (some 107) HT_ ?_
                refine p_ 7 (some 108) HT_ ?_
                refine p_ 8 (some 109) HT_ ?_
                refine p_ 9 (some 110) HT_ ?_
                refine p_ 11 (some 112) HT_ ?_
                refine p_ 12 (some 113) HT_ ?_
                refine p_ 13 (some 114) HT_ ?_
                refine p_ 14 (some 115) HT_ ?_
                refine p_ 15 (some 116) HT_ ?_
                refine p_ 18 (some 119) HT_ ?_
                refine t_ 5 (some 106) HT_ HW_ hHeld ?_
                refine t_ 10 (some 111) HT_ HW_ hHeld ?_
                refine t_ 16 (some 117) HT_ HW_ hHeld ?_
                refine one_ (i := 17) (N := some 118) #[true, true, true, true, true, true, true, true, true, true, true, true, true, true, true, true, true, true, true, false, false, false, false] rfl rfl (one_of HT_.out (by kernel_rfl)) (by decide) (fun K hK => ?_)
                refine goes_ Tryz.func41 (by kernel_rfl) rfl #[.string a0, .string ((rd_T45 t427 x15_3).f0)] (by rfl) rfl rfl (by (try simp only [List.map_toArray, List.map_cons, List.map_nil]); first | done | rfl | (simp only [List.length_drop, List.length_take]; rfl)) ?_
                with_reducible refine (paymasterref07_Salt.calls k3 a0 ((rd_T45 t427 x15_3).f0) t460 _ A41.out).mono ?_
                rintro e w50 ⟨rfl, hb⟩
                have HS0_ := (hb.cell (World.block_lt_of_cell? _ _ (hHeld.1))).trans (hHeld.1)
                have HS1_ := (hb.cell (World.block_lt_of_cell? _ _ (hHeld.2.1))).trans (hHeld.2.1)
                have HS2_ := (hb.cell (World.block_lt_of_cell? _ _ (hHeld.2.2.1))).trans (hHeld.2.2.1)
                have HS3_ := (hb.cell (World.block_lt_of_cell? _ _ (hHeld.2.2.2.1))).trans (hHeld.2.2.2.1)
                have HS4_ := (hb.cell (World.block_lt_of_cell? _ _ (hHeld.2.2.2.2.1))).trans (hHeld.2.2.2.2.1)
                have HS5_ := (hb.cell (World.block_lt_of_cell? _ _ (hHeld.2.2.2.2.2.1))).trans (hHeld.2.2.2.2.2.1)
                have HS6_ := (hb.cell (World.block_lt_of_cell? _ _ (hHeld.2.2.2.2.2.2.1))).trans (hHeld.2.2.2.2.2.2.1)
                have HS7_ := (hb.cell (World.block_lt_of_cell? _ _ (hHeld.2.2.2.2.2.2.2.1))).trans (hHeld.2.2.2.2.2.2.2.1)
                have HS8_ := (hb.cell (World.block_lt_of_cell? _ _ (hHeld.2.2.2.2.2.2.2.2))).trans (hHeld.2.2.2.2.2.2.2.2)
                refine ⟨_, rfl, ?_⟩
                have n0_ := Aside0.mk (Kd.R_below (by (with_reducible repeat (first | apply Kd.R_alloc | apply Kd.R_drewN | apply Kd.R_drew)); exact HO_10.out) hb)
                have n1_ := Aside0.mk (Kd.R_below (by (with_reducible repeat (first | apply Kd.R_alloc | apply Kd.R_drewN | apply Kd.R_drew)); exact HO_11.out) hb)
                have n2_ := Aside0.mk (blk_below (g := gb452) (o := .cells #[.string t446, .int .u64 t447, .int .u64 t448, .string t449, .int .u64 t450] 41 (0, 0)) (by (with_reducible repeat (first | refine blk_drewN ?_ _ | refine blk_drew ?_ | refine blk_alloc ?_ _)); exact BK452.out) hb)
                have n3_ := Aside0.mk (below_step (by repeat (first | (with_reducible first | exact HB.out | apply below_alloc | apply pw_below_drewN | apply below_drew1 | refine below_set ?_ GE452.out) | exact HB.out)) hb)
                clear HO_10
                clear HO_11
                clear BK452
                clear HB
                have HO_10 := n0_
                have HO_11 := n1_
                have BK452 := n2_
                have HB := n3_
                clear n0_ n1_ n2_ n3_
                (try clear hb)
                (try clear hb2)
                (try clear hk)
                (try clear hi)
                refine hK.out _ _ ⟨HS0_, HS1_, HS2_, HS3_, HS4_, HS5_, HS6_, HS7_, HS8_⟩ (fun hHeld => ?_)
                clear hK K
                refine norm_ (a' := ?_) ?_ ?_
                rotate_left
                ·show Act.put _ (some 118) _ = _
                 simp only [Act.put, List.setIfInBounds_toArray, List.set_cons_zero, List.set_cons_succ, i64_w, i32_w]
                 rfl
                refine p_ 19 (some 120) HT_ ?_
                refine last_ (i := 20) (N := some 121) #[true, true, true, true, true, true, true, true, true, true, true, true, true, true, true, true, true, true, true, true, true, false, false] rfl rfl (one_of HT_.out (by kernel_rfl)) (by decide) (fun K hK => ?_)
                refine value_ (w1 := ?_) (v := ?_) (by rfl) rfl ?_ ?_
                rotate_left 2
                ·go_simp
                 constructor
                 ·rfl
                 ·rfl
                refine hK.out _ _ ?_
                clear hK K
                refine norm_ (a' := ?_) ?_ ?_
                rotate_left
                ·show Act.put _ (some 121) _ = _
                 simp only [Act.put, List.setIfInBounds_toArray, List.set_cons_zero, List.set_cons_succ, i64_w, i32_w]
                 rfl
                refine last_ (i := 21) (N := some 122) #[true, true, true, true, true, true, true, true, true, true, true, true, true, true, true, true, true, true, true, true, true, true, false] rfl rfl (one_of HT_.out (by kernel_rfl)) (by decide) (fun K hK => ?_)
                refine Kd.R_append_step k41 (w0 := w) w.heap.size (by rfl) (.tmp 101) (.tmp 121) 22 41 (.agg #[(.string ⟨#[]⟩), (.int .u64 0), (.int .u64 0), (.string ⟨#[]⟩), (.int .u64 0)]) 56 rfl Tryz.underlying22 info41 rfl (by decide) (by omega) (.slice Ao47 x11_3.length co47) x11_3 (⟨(rd_T45 t427 x15_3).f0, (⟨(rd_T45 t427 x15_3).f1.f0, (rd_T45 t427 x15_3).f1.f1⟩ : S39), t460, t455⟩ : S41) [.string ((rd_T45 t427 x15_3).f0), .int .u64 ((rd_T45 t427 x15_3).f1.f0), .int .u64 ((rd_T45 t427 x15_3).f1.f1), .string t460, .int .u64 t455] (fun k_ => k_ ≠ gb452) (fun _ => False) rfl rfl ?aP (fun _ hk => hk.elim) ?aF ?aO ?aB ?aS ?aL ?_
                (case aP => exact k41_mkM _ _ _ (⟨(rd_T45 t427 x15_3).f0, (⟨(rd_T45 t427 x15_3).f1.f0, (rd_T45 t427 x15_3).f1.f1⟩ : S39), t460, t455⟩ : S41))
                (case aB => exact (by repeat (first | (with_reducible first | exact HB.out | apply below_alloc | apply pw_below_drewN | apply below_drew1 | refine below_set ?_ GE452.out) | exact HB.out)))
                (case aF => exact (fun k_ hk => Kd.freshB (g := gb452) (o := .cells #[.string t446, .int .u64 t447, .int .u64 t448, .string t449, .int .u64 t450] 41 (0, 0)) (by (with_reducible repeat (first | refine blk_drewN ?_ _ | refine blk_drew ?_ | refine blk_alloc ?_ _)); exact BK452.out) k_ hk))
                (case aO => exact (by (with_reducible repeat (first | apply Kd.R_alloc | apply Kd.R_drewN | apply Kd.R_drew)); exact Kd.R_mono HO_11.out (fun _ hk => hk.2)))
                (case aS => exact (below_size (by repeat (first | (with_reducible first | exact HB.out | apply below_alloc | apply pw_below_drewN | apply below_drew1 | refine below_set ?_ GE452.out) | exact HB.out))))
                (case aL => have := LMc42.out; omega)
                intro v462 w51 ho hb hg hat
                rw [← Ny461.out] at ho
                have n0_ := Aside0.mk (Kd.R_over' (by (with_reducible repeat (first | apply Kd.R_alloc | apply Kd.R_drewN | apply Kd.R_drew)); exact HO_10.out) (Kd.R_typed (by (with_reducible repeat (first | apply Kd.R_alloc | apply Kd.R_drewN | apply Kd.R_drew)); exact HO_11.out)) (by decide) hg)
                have n1_ := Aside0.mk (blk_grown (g := gb452) (o := .cells #[.string t446, .int .u64 t447, .int .u64 t448, .string t449, .int .u64 t450] 41 (0, 0)) (by (with_reducible repeat (first | refine blk_drewN ?_ _ | refine blk_drew ?_ | refine blk_alloc ?_ _)); exact BK452.out) hg (Kd.R_away HO_11.out (fun _ hk => hk.2)))
                have n2_ := Aside0.mk (hb)
                have n3_ := Aside0.mk (ho)
                clear HO_10
                clear BK452
                clear HB
                clear HO_11
                have HO_10 := n0_
                have BK452 := n1_
                have HB := n2_
                have HO463 := n3_
                clear n0_ n1_ n2_ n3_
                clear ho hb hg hat
                refine hK.out _ _ ?_
                clear hK K
                refine norm_ (a' := ?_) ?_ ?_
                rotate_left
                ·show Act.put _ (some 122) _ = _
                 simp only [Act.put, List.setIfInBounds_toArray, List.set_cons_zero, List.set_cons_succ, i64_w, i32_w]
                 rfl
                refine p_ 22 (some 11) HT_ ?_
                refine done_ (done_of HT_.out (by kernel_rfl)) ?_
                try go_wp2
                go_roundg k3
                case measure => have := HJ7.out; have := HK2.out; have := HK3.out; omega
                case rel => exact ⟨(y461), (wrap64 (x15_3 + 1)), (by first | rfl | (simp; done) | (simp [*]; done)), H', ⟨by have := HJ7.out; have := HK2.out; have := HK3.out; omega⟩, ⟨by (with_reducible repeat (first | apply Kd.R_alloc | apply Kd.R_drewN | apply Kd.R_drew)); exact HO_10.out⟩, ⟨by (with_reducible repeat (first | apply Kd.R_alloc | apply Kd.R_drewN | apply Kd.R_drew)); exact Kd.R_mono HO463.out (fun _ hk => trivial)⟩, ⟨by repeat (first | (with_reducible first | exact HB.out | apply below_alloc | apply pw_below_drewN | apply below_drew1 | refine below_set ?_ GE452.out) | exact HB.out)⟩⟩
               ·rw [if_neg c42] at H
                exact absurd H (by simp)
             ·rw [if_neg c33] at H
              exact absurd H (by simp)
            ·rw [if_neg c32] at H
             have c32b0 : decide (x15_3 < (t427.length : Int)) = false := decide_eq_false c32
             clear c32
             replace H := Option.bind_eq_some_iff.mp H
             obtain ⟨t442, A520, H⟩ := H
             (try dsimp only at H)
             have A52 := Aside0.mk A520
             clear A520
             simp only [Option.some.injEq, Prod.mk.injEq] at H
             obtain ⟨rfl, rfl⟩ := H
             obtain ⟨Ao53, co53, eo53⟩ := Kd.R_slice HO_11.out
             subst eo53
             go_wp2_with (first | ((with_reducible refine gate_callee (f := 42) rfl ?_); refine goesL_ (some 124) rfl rfl Tryz.func42 (by kernel_rfl) rfl #[.slice Ao53 x11_3.length co53] rfl (by (try simp only [List.map_toArray, List.map_cons, List.map_nil]); first | done | rfl | (simp only [List.length_drop, List.length_take]; rfl)) ?_; (with_reducible refine (paymasterref12_Sort.calls k3 _ _ x11_3 t442 _ ?side1 ?side2 A52.out).mono ?_); (case side1 => repeat (first | exact (Kd.R_reads' HO_11.out).2.2 | (with_reducible refine Kd.C_alloc ?_ _) | (with_reducible refine Kd.C_drewN ?_ _) | (with_reducible refine Kd.C_drew ?_))); (case side2 => exact (Kd.R_reads' HO_11.out).2.1); rintro e w54 ⟨v443, rfl, ho0, hb⟩; refine ⟨_, rfl, ?_⟩; have n0_ := Aside0.mk (Kd.R_below (by (with_reducible repeat (first | apply Kd.R_alloc | apply Kd.R_drewN | apply Kd.R_drew)); exact HO_10.out) hb); have n1_ := Aside0.mk (Kd.R_elder' (by (with_reducible repeat (first | apply Kd.R_alloc | apply Kd.R_drewN | apply Kd.R_drew)); exact HO_11.out) (Kd.R_base ho0) hb); have n2_ := Aside0.mk (Kd.R_lower (Kd.R_new' ho0 (Kd.R_lt (by (with_reducible repeat (first | apply Kd.R_alloc | apply Kd.R_drewN | apply Kd.R_drew)); exact HO_11.out))) (below_size (by repeat (first | (with_reducible first | exact HB.out | apply below_alloc | apply pw_below_drewN | apply below_drew1) | exact HB.out)))); have n3_ := Aside0.mk (below_step (by repeat (first | (with_reducible first | exact HB.out | apply below_alloc | apply pw_below_drewN | apply below_drew1) | exact HB.out)) hb); clear HO_10; clear HO_11; clear HB; have HO_10 := n0_; have HO_11 := n1_; have HO444 := n2_; have HB := n3_; clear n0_ n1_ n2_ n3_; (try clear hb); (try clear hb2); (try clear hk); (try clear hi); (try clear ho0)))
             go_ret2
             exact ⟨_, by first | rfl | (simp [errW_none, errW_some] <;> rfl) | (simp [*, errW_none, errW_some] <;> rfl), by (with_reducible repeat (first | apply Kd.R_alloc | apply Kd.R_drewN | apply Kd.R_drew)); exact Kd.R_mono HO444.out (fun _ hk => trivial), by repeat (first | (with_reducible first | exact HB.out | apply below_alloc | apply pw_below_drewN | apply below_drew1) | exact HB.out)⟩
 ·replace c6 := Bool.eq_false_iff.mpr c6
  subst c6
  rw [if_neg (show ¬ (false = true) by decide)] at H
  simp only [Option.some.injEq, Prod.mk.injEq] at H
  obtain ⟨rfl, rfl⟩ := H
  go_enter Tryz.func11, Tryz.ntmps11
  go_wp2_with (first | ((with_reducible refine gate_callee (f := 33) rfl ?_); refine goesL_ (some 21) rfl rfl Tryz.func33 (by kernel_rfl) rfl #[.int .i64 a1] rfl (by (try simp only [List.map_toArray, List.map_cons, List.map_nil]); first | done | rfl | (simp only [List.length_drop, List.length_take]; rfl)) ?_; (with_reducible refine (paymasterref12_High.calls a1 false _ A5.out).mono ?_); rintro e w' ⟨rfl, ⟨nd, rfl⟩⟩; refine ⟨_, rfl, ?_⟩))
  go_ret2
  exact ⟨_, by first | rfl | (simp [errW_none, errW_some] <;> rfl) | (simp [*, errW_none, errW_some] <;> rfl), by first | exact Kd.R_nil _ _ _ _ _ | exact Kd.N_nil _ _ _ _ _ | exact Kd.V_nil _ _ _ _ _ | exact Kd.Q_nil _ _ _ _ _ | exact Kd.S_nil _ _ _ _ _, by repeat (first | (with_reducible first | exact HB.out | apply below_alloc | apply pw_below_drewN | apply below_drew1) | exact HB.out)⟩

end Go.Proofs.YtfijhbfdkcajjaaGreatDoor.Pr
