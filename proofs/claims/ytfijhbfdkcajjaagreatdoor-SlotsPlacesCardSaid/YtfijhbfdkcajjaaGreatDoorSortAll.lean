/- Printed: the reference's sorts. -/
import Derived.Test.YtfijhbfdkcajjaaGreatDoorSortKey
import Derived.WalkKit
import Derived.Test.YtfijhbfdkcajjaaGreatDoorQk
import Derived.Test.YtfijhbfdkcajjaaGreatDoorPrx0
/- '>' of strings, as the other comparisons are told. -/
namespace Go.Proofs.YtfijhbfdkcajjaaGreatDoor.Pr
open Go.RowKit
theorem gtr_run (P : Program) (t : TypeId) (a b : ByteArray) (w : World) : (Go.binOp .gtr t (.string a) (.string b)).run P w = .ok (.bool (Op.bytesLess b.toList a.toList)) w := by
  show (Sem.pure (Value.bool !(Op.bytesLess a.toList b.toList || a.toList == b.toList))).run P w = _
  show Result.ok _ w = _
  congr 2
  cases h : Op.bytesLess b.toList a.toList with
  | true =>
    have h1 : Op.bytesLess a.toList b.toList = false := by
      cases e : Op.bytesLess a.toList b.toList with
      | false => rfl
      | true => have := Go.SortKey.bl_trans e h; rw [Go.SortKey.bl_irrefl] at this; cases this
    have h2 : (a.toList == b.toList) = false := by
      rw [beq_eq_false_iff_ne]
      intro e
      rw [e, Go.SortKey.bl_irrefl] at h; cases h
    rw [h1, h2]; rfl
  | false =>
    cases e : Op.bytesLess a.toList b.toList with
    | true => rfl
    | false => rw [Go.SortKey.bl_total e h, beq_self_eq_true]; rfl
theorem own_len (A : Option Addr) (n c n' c' : Nat) : (Value.slice A n c).ownBlock = (Value.slice A n' c').ownBlock := by cases A <;> rfl
end Go.Proofs.YtfijhbfdkcajjaaGreatDoor.Pr

-- Written by wip/tools/myprint.py (a print of the translation, turned). Not trusted: Lean checks it.
namespace Go.Proofs.YtfijhbfdkcajjaaGreatDoor.Pr
open Go.RowKit Go.Proofs.YtfijhbfdkcajjaaGreatDoorW.PrintWords Go.Proofs.YtfijhbfdkcajjaaGreatDoorW.PrintLast Go.Proofs.YtfijhbfdkcajjaaGreatDoorW.PrintMore
attribute [local go_sem high] gtr_run
attribute [local go_sem] max2_int min2_int max_two min_two max_three min_three max_four min_four   -- for this text's walks alone
set_option linter.unusedVariables false
set_option linter.unusedSimpArgs false

/-! ### paymasterref10_Sort: function 37 -/
mutual
def paymasterref10_Sort.l0 : Nat → List (S45) → List (S45) → Int → Option ((List (S45)))
 | 0, _, _, _ => none
 | k + 1, x0, x3, x4 => if x4 < (x0.length : Int) then (paymasterref10_Sort.l1 k x0 x3 x4 (x3.length : Int)) else (some x3)
def paymasterref10_Sort.l1 : Nat → List (S45) → List (S45) → Int → Int → Option ((List (S45)))
 | 0, _, _, _, _ => none
 | k + 1, x0, x3, x4, x5 => if x5 > 0 then (if 0 ≤ (wrap64 (x5 - 1)) then (if (wrap64 (x5 - 1)) < (x3.length : Int) then (if 0 ≤ x4 then (if x4 < (x0.length : Int) then (if (Op.bytesLess (((rd_T45 x0 x4).f0).toList) (((rd_T45 x3 (wrap64 (x5 - 1))).f0).toList)) = true then (paymasterref10_Sort.l1 k x0 x3 x4 (wrap64 (x5 - 1))) else ((some (([] : List (S45)) : List (S45))).bind fun y296 => (if 0 ≤ x5 then (if x5 ≤ (x3.length : Int) then ((some (x3.drop (x5 : Int).toNat : List (S45))).bind fun y299 => (if y296.length + y299.length < 4398046511104 then ((some (y296 ++ y299 : List (S45))).bind fun y303 => ((some (x3.take (x5 : Int).toNat : List (S45))).bind fun y306 => (if y306.length < 4398046511104 then ((some (y306 ++ [(⟨(rd_T45 x0 x4).f0, (⟨(rd_T45 x0 x4).f1.f0, (rd_T45 x0 x4).f1.f1⟩ : S39)⟩ : S45)] : List (S45))).bind fun y310 => (if y310.length + y303.length < 4398046511104 then (paymasterref10_Sort.l0 k x0 (y310 ++ y303) (wrap64 (x4 + 1))) else (none))) else (none)))) else (none))) else (none)) else (none)))) else (none)) else (none)) else (none)) else (none)) else ((some (([] : List (S45)) : List (S45))).bind fun y316 => (if 0 ≤ x5 then (if x5 ≤ (x3.length : Int) then ((some (x3.drop (x5 : Int).toNat : List (S45))).bind fun y319 => (if y316.length + y319.length < 4398046511104 then ((some (y316 ++ y319 : List (S45))).bind fun y323 => ((some (x3.take (x5 : Int).toNat : List (S45))).bind fun y326 => (if 0 ≤ x4 then (if x4 < (x0.length : Int) then (if y326.length < 4398046511104 then ((some (y326 ++ [(⟨(rd_T45 x0 x4).f0, (⟨(rd_T45 x0 x4).f1.f0, (rd_T45 x0 x4).f1.f1⟩ : S39)⟩ : S45)] : List (S45))).bind fun y330 => (if y330.length + y323.length < 4398046511104 then (paymasterref10_Sort.l0 k x0 (y330 ++ y323) (wrap64 (x4 + 1))) else (none))) else (none)) else (none)) else (none)))) else (none))) else (none)) else (none)))
end
def paymasterref10_Sort.f (k : Nat) (l0 : List (S45)) : Option ((List (S45))) := paymasterref10_Sort.l0 k l0 ([] : List (S45)) 0
def paymasterref10_Sort.T6 : Bool × List (List Nat × List Nat) := (true, [([], []), ([0], [0]), ([1], [1]), ([2], [2]), ([2], [2]), ([4, 2], [2, 4]), ([3, 5, 2], [2, 3, 5]), ([6, 2], [2, 6]), ([7, 2], [2, 7]), ([2], [2]), ([2], [2]), ([9, 10, 2], [2, 9, 10]), ([11, 2], [2, 11]), ([12, 2], [2, 12]), ([8, 13, 2], [2, 8, 13]), ([2, 14], [2, 14])])
def paymasterref10_Sort.B6 : List Nat := [0, 1, 3, 7, 7, 23, 63, 127, 255, 7, 7, 1543, 3591, 7687, 16383, 32767]
theorem paymasterref10_Sort.tab6 : rtab .any (opsOf Tryz.f37 6) = paymasterref10_Sort.T6 := by kernel_rfl
theorem paymasterref10_Sort.bits6 : waitsOk paymasterref10_Sort.T6.2 paymasterref10_Sort.B6 = true := by kernel_rfl
def paymasterref10_Sort.T9 : Bool × List (List Nat × List Nat) := (true, [([], []), ([], []), ([0, 1], [0, 1]), ([], []), ([], []), ([3, 4], [3, 4]), ([5], [5]), ([6], [6]), ([2, 7], [2, 7]), ([], []), ([8, 9, 8], [8, 9]), ([10, 10, 0, 1, 2, 3, 4, 5, 6, 7, 8, 9, 10], [0, 10])])
def paymasterref10_Sort.B9 : List Nat := [0, 0, 3, 0, 0, 24, 56, 120, 255, 0, 1023, 2047]
theorem paymasterref10_Sort.tab9 : rtab .any (opsOf Tryz.f37 9) = paymasterref10_Sort.T9 := by kernel_rfl
theorem paymasterref10_Sort.bits9 : waitsOk paymasterref10_Sort.T9.2 paymasterref10_Sort.B9 = true := by kernel_rfl
set_option maxHeartbeats 8000000 in
set_option maxRecDepth 100000 in
theorem paymasterref10_Sort.calls (k : Nat) (A0 : Option Addr) (c0 : Nat) (l0 : List (S45)) (r : List (S45)) (w : World) (hr0 : Kd.C k45 w A0 l0.length l0) (hc0 : l0.length ≤ c0) (h : paymasterref10_Sort.f k l0 = some r) :
 Calls Tryz.prog 37 #[.slice A0 l0.length c0] w fun e w' => ∃ v0_ : Value, e = .returned (v0_) ∧ Kd.R k45 45 w' w.heap.size (fun _ => True) v0_ r ∧ Below w.heap.size w w' := by
 have hu45 := Tryz.underlying45
 have HR0 := Aside0.mk hr0
 have HC0 := Aside0.mk hc0
 clear hr0 hc0
 have HB := Aside0.mk (Below.refl w.heap.size w)
 have H : (paymasterref10_Sort.l0 k l0 ([] : List (S45)) 0) = some r := h
 clear h
 have H' := Aside0.mk H
 clear H
 go_enter Tryz.func37, Tryz.ntmps37
 go_wp2
 go_loopg [3, 4] k (fun kq v3 v4 w' => ∃ (x3_1 : List (S45)) (x4_1 : Int), v4 = .int .i64 x4_1 ∧ Aside0 (paymasterref10_Sort.l0 kq l0 x3_1 x4_1 = some r) ∧ Aside0 (kq ≤ k) ∧ Aside0 (Kd.R k45 45 w' w.heap.size (fun _ => True) v3 x3_1) ∧ Aside0 (Below w.heap.size w w'))
 case atStart => exact ⟨(([] : List (S45))), (0), (by first | rfl | (simp; done) | (simp [*]; done)), H', ⟨Nat.le_refl _⟩, ⟨by first | exact Kd.R_nil _ _ _ _ _ | exact Kd.N_nil _ _ _ _ _ | exact Kd.V_nil _ _ _ _ _ | exact Kd.Q_nil _ _ _ _ _ | exact Kd.S_nil _ _ _ _ _⟩, ⟨by repeat (first | (with_reducible first | exact HB.out | apply below_alloc | apply pw_below_drewN | apply below_drew1) | exact HB.out)⟩⟩
 case round =>
  clear H'
  obtain ⟨x3_1, x4_1, rfl, HA, HK1, HO_3, HB⟩ := hrel
  cases gk with
  | zero => exact absurd HA.out (by simp [paymasterref10_Sort.l0])
  | succ k1 =>
   have H := HA.out
   clear HA
   simp only [paymasterref10_Sort.l0] at H
   by_cases c2 : x4_1 < (l0.length : Int)
   ·rw [if_pos c2] at H
    have c2b0 : decide (x4_1 < (l0.length : Int)) = true := decide_eq_true c2
    clear c2
    have H' := Aside0.mk H
    clear H
    obtain ⟨Ao3, co3, eo3⟩ := Kd.R_slice HO_3.out
    subst eo3
    go_wp2
    go_loopg [5] k1 (fun kq v5 w' => ∃ (x5_2 : Int), v5 = .int .i64 x5_2 ∧ Aside0 (paymasterref10_Sort.l1 kq l0 x3_1 x4_1 x5_2 = some r) ∧ Aside0 (kq ≤ k1) ∧ Aside0 (Kd.R k45 45 w' w.heap.size (fun _ => True) (.slice Ao3 x3_1.length co3) x3_1) ∧ Aside0 (Below w.heap.size w w'))
    case atStart => exact ⟨((x3_1.length : Int)), (by first | rfl | (simp; done) | (simp [*]; done)), H', ⟨Nat.le_refl _⟩, ⟨by (with_reducible repeat (first | apply Kd.R_alloc | apply Kd.R_drewN | apply Kd.R_drew)); exact HO_3.out⟩, ⟨by repeat (first | (with_reducible first | exact HB.out | apply below_alloc | apply pw_below_drewN | apply below_drew1) | exact HB.out)⟩⟩
    case round =>
     clear H'
     try clear c2
     try clear c2b0
     try clear p2
     try clear c3
     obtain ⟨x5_2, rfl, HA, HK2, HO_3, HB⟩ := hrel
     cases gk with
     | zero => exact absurd HA.out (by simp [paymasterref10_Sort.l1])
     | succ k2 =>
      have H := HA.out
      clear HA
      simp only [paymasterref10_Sort.l1] at H
      by_cases c4 : x5_2 > 0
      ·rw [if_pos c4] at H
       have c4b0 : decide (0 < x5_2) = true := decide_eq_true c4
       clear c4
       obtain ⟨ji5, hji5⟩ : ∃ j_ : Int, (wrap64 (x5_2 - 1)) = j_ := ⟨_, rfl⟩
       replace H : (if 0 ≤ (ji5) then (if (ji5) < (x3_1.length : Int) then (if 0 ≤ x4_1 then (if x4_1 < (l0.length : Int) then (if (Op.bytesLess (((rd_T45 l0 x4_1).f0).toList) (((rd_T45 x3_1 (ji5)).f0).toList)) = true then (paymasterref10_Sort.l1 k2 l0 x3_1 x4_1 ji5) else ((some (([] : List (S45)) : List (S45))).bind fun y296 => (if 0 ≤ x5_2 then (if x5_2 ≤ (x3_1.length : Int) then ((some (x3_1.drop (x5_2 : Int).toNat : List (S45))).bind fun y299 => (if y296.length + y299.length < 4398046511104 then ((some (y296 ++ y299 : List (S45))).bind fun y303 => ((some (x3_1.take (x5_2 : Int).toNat : List (S45))).bind fun y306 => (if y306.length < 4398046511104 then ((some (y306 ++ [(⟨(rd_T45 l0 x4_1).f0, (⟨(rd_T45 l0 x4_1).f1.f0, (rd_T45 l0 x4_1).f1.f1⟩ : S39)⟩ : S45)] : List (S45))).bind fun y310 => (if y310.length + y303.length < 4398046511104 then (paymasterref10_Sort.l0 k2 l0 (y310 ++ y303) (wrap64 (x4_1 + 1))) else (none))) else (none)))) else (none))) else (none)) else (none)))) else (none)) else (none)) else (none)) else (none)) = some r := by first | (rw [hji5] at H; exact H) | (simp only [hji5] at H ⊢; exact H)
       have hji5w : (IntKind.i64.wrap (x5_2 - 1)) = ji5 := (i64_w _).trans hji5
       by_cases c6 : 0 ≤ (ji5)
       ·rw [if_pos c6] at H
        have c6b0 : decide (0 ≤ (ji5)) = true := decide_eq_true c6
        clear c6
        by_cases c7 : (ji5) < (x3_1.length : Int)
        ·rw [if_pos c7] at H
         have c7b0 : decide ((ji5) < (x3_1.length : Int)) = true := decide_eq_true c7
         clear c7
         by_cases c8 : 0 ≤ x4_1
         ·rw [if_pos c8] at H
          have c8b0 : decide (0 ≤ x4_1) = true := decide_eq_true c8
          clear c8
          by_cases c9 : x4_1 < (l0.length : Int)
          ·rw [if_pos c9] at H
           have c9b0 : decide (x4_1 < (l0.length : Int)) = true := decide_eq_true c9
           clear c9
           by_cases c10 : (Op.bytesLess (((rd_T45 l0 x4_1).f0).toList) (((rd_T45 x3_1 (ji5)).f0).toList)) = true
           ·rw [if_pos c10] at H
            have c10b0 : (Op.bytesLess (((rd_T45 l0 x4_1).f0).toList) (((rd_T45 x3_1 (ji5)).f0).toList)) = true := c10
            clear c10
            have H' := Aside0.mk H
            clear H
            try go_wp2
            have n0_ := Aside0.mk (Kd.R_drew HO_3.out)
            have n1_ := Aside0.mk (below_drew1 HB.out)
            clear HO_3
            clear HB
            have HO_3 := n0_
            have HB := n1_
            clear n0_ n1_
            have p294 : 0 ≤ ((ji5) : Int) := of_decide_eq_true (by first | (with_reducible assumption) | assumption)
            have q294 : (ji5) < (x3_1.length : Int) := of_decide_eq_true (by first | (with_reducible assumption) | assumption)
            obtain ⟨ad294, e294, hx294_0, hx294_1, hx294_2⟩ := at_T45 (Kd.R_reads' HO_3.out).2.2 (ji5) p294 q294
            cases e294
            replace p294 := eq_true p294
            replace q294 := eq_true q294
            have p295 : 0 ≤ (x4_1 : Int) := of_decide_eq_true (by first | (with_reducible assumption) | assumption)
            have q295 : x4_1 < (l0.length : Int) := of_decide_eq_true (by first | (with_reducible assumption) | assumption)
            obtain ⟨ad295, e295, hx295_0, hx295_1, hx295_2⟩ := at_T45 HR0.out x4_1 p295 q295
            have hw295_2 := hx295_2
            have hw295_1 := hx295_1
            have hw295_0 := hx295_0
            cases e295
            replace hx295_0 := (HB.out.cell (World.block_lt_of_cell? w _ hx295_0)).trans hx295_0
            replace hx295_1 := (HB.out.cell (World.block_lt_of_cell? w _ hx295_1)).trans hx295_1
            replace hx295_2 := (HB.out.cell (World.block_lt_of_cell? w _ hx295_2)).trans hx295_2
            replace p295 := eq_true p295
            replace q295 := eq_true q295
            refine start_ (n := 16) (S := fun w' => w'.cell? (ad294.add (((ji5)).toNat * 3)) = some (.string ((rd_T45 x3_1 (ji5)).f0)) ∧ w'.cell? ⟨(ad294.add (((ji5)).toNat * 3)).block, (ad294.add (((ji5)).toNat * 3)).off + 1, none⟩ = some (.int .u64 ((rd_T45 x3_1 (ji5)).f1.f0)) ∧ w'.cell? ⟨(ad294.add (((ji5)).toNat * 3)).block, (ad294.add (((ji5)).toNat * 3)).off + 2, none⟩ = some (.int .u64 ((rd_T45 x3_1 (ji5)).f1.f1)) ∧ w'.cell? (ad295.add ((x4_1).toNat * 3)) = some (.string ((rd_T45 l0 x4_1).f0)) ∧ w'.cell? ⟨(ad295.add ((x4_1).toNat * 3)).block, (ad295.add ((x4_1).toNat * 3)).off + 1, none⟩ = some (.int .u64 ((rd_T45 l0 x4_1).f1.f0)) ∧ w'.cell? ⟨(ad295.add ((x4_1).toNat * 3)).block, (ad295.add ((x4_1).toNat * 3)).off + 2, none⟩ = some (.int .u64 ((rd_T45 l0 x4_1).f1.f1))) (ds := []) #[false, false, false, false, false, false, false, false, false, false, false, false, false, false, false, false] (by kernel_rfl) rfl rfl ⟨hx294_0, hx294_1, hx294_2, ((HB.out.cell (World.block_lt_of_cell? w _ hw295_0)).trans hw295_0), ((HB.out.cell (World.block_lt_of_cell? w _ hw295_1)).trans hw295_1), ((HB.out.cell (World.block_lt_of_cell? w _ hw295_2)).trans hw295_2)⟩ (fun hHeld => ?_); refine with_tabW paymasterref10_Sort.tab6 paymasterref10_Sort.bits6 (fun HT_ HW_ => ?_)
            generalize wr.drew = w11 at HO_3 HB hx294_0 hx294_1 hx294_2 hx295_0 hx295_1 hx295_2 hHeld ⊢
            refine p_ 0 (some 15) HT_ ?_
            refine p_ 1 (some 16) HT_ ?_
            refine p_ 2 (some 17) HT_ ?_
            refine p_ 3 (some 18) HT_ ?_
            refine p_ 4 (some 19) HT_ ?_
            refine p_ 5 (some 20) HT_ ?_
            refine p_ 6 (some 21) HT_ ?_
            refine p_ 7 (some 22) HT_ ?_
            refine p_ 9 (some 24) HT_ ?_
            refine p_ 10 (some 25) HT_ ?_
            refine p_ 11 (some 26) HT_ ?_
            refine p_ 12 (some 27) HT_ ?_
            refine t_ 8 (some 23) HT_ HW_ hHeld ?_
            refine t_ 13 (some 28) HT_ HW_ hHeld ?_
            refine p_ 14 (some 29) HT_ ?_
            refine p_ 15 (some 30) HT_ ?_
            refine done_ (done_of HT_.out (by kernel_rfl)) ?_
            try go_wp2
            go_roundg k2
            case measure => have := HK1.out; have := HK2.out; omega
            case rel => exact ⟨(ji5), (by first | rfl | (simp; done) | (simp only [← hji5] <;> (first | rfl | simp)) | (simp [*]; done)), H', ⟨by have := HK1.out; have := HK2.out; omega⟩, ⟨by (with_reducible repeat (first | apply Kd.R_alloc | apply Kd.R_drewN | apply Kd.R_drew)); exact HO_3.out⟩, ⟨by repeat (first | (with_reducible first | exact HB.out | apply below_alloc | apply pw_below_drewN | apply below_drew1) | exact HB.out)⟩⟩
           ·rw [if_neg c10] at H
            have c10b0 : (Op.bytesLess (((rd_T45 l0 x4_1).f0).toList) (((rd_T45 x3_1 (ji5)).f0).toList)) = false := by simpa using c10
            clear c10
            obtain ⟨y296, hy296⟩ : ∃ y_ : List (S45), y_ = (([] : List (S45))) := ⟨_, rfl⟩
            replace H : (if 0 ≤ x5_2 then (if x5_2 ≤ (x3_1.length : Int) then ((some (x3_1.drop (x5_2 : Int).toNat : List (S45))).bind fun y299 => (if y296.length + y299.length < 4398046511104 then ((some (y296 ++ y299 : List (S45))).bind fun y303 => ((some (x3_1.take (x5_2 : Int).toNat : List (S45))).bind fun y306 => (if y306.length < 4398046511104 then ((some (y306 ++ [(⟨(rd_T45 l0 x4_1).f0, (⟨(rd_T45 l0 x4_1).f1.f0, (rd_T45 l0 x4_1).f1.f1⟩ : S39)⟩ : S45)] : List (S45))).bind fun y310 => (if y310.length + y303.length < 4398046511104 then (paymasterref10_Sort.l0 k2 l0 (y310 ++ y303) (wrap64 (x4_1 + 1))) else (none))) else (none)))) else (none))) else (none)) else (none)) = some r := by first | (rw [hy296]; with_reducible exact H) | (have H2_ := (Option.bind_some _ _).symm.trans H; rw [hy296]; with_reducible exact H2_) | (have H2_ := (Option.bind_some _ _).symm.trans H; with_reducible exact H2_) | with_reducible exact H | (rw [hy296]; exact H) | exact H
            have Ny296 := Aside0.mk hy296
            clear hy296
            by_cases c12 : 0 ≤ x5_2
            ·rw [if_pos c12] at H
             have c12b0 := eq_true c12
             have c12b1 : decide (0 ≤ x5_2) = true := decide_eq_true c12
             clear c12
             by_cases c13 : x5_2 ≤ (x3_1.length : Int)
             ·rw [if_pos c13] at H
              have c13b0 := eq_true c13
              have c13b1 : decide (x5_2 ≤ (x3_1.length : Int)) = true := decide_eq_true c13
              clear c13
              obtain ⟨y299, hy299⟩ : ∃ y_ : List (S45), y_ = (x3_1.drop (x5_2 : Int).toNat) := ⟨_, rfl⟩
              replace H : (if y296.length + y299.length < 4398046511104 then ((some (y296 ++ y299 : List (S45))).bind fun y303 => ((some (x3_1.take (x5_2 : Int).toNat : List (S45))).bind fun y306 => (if y306.length < 4398046511104 then ((some (y306 ++ [(⟨(rd_T45 l0 x4_1).f0, (⟨(rd_T45 l0 x4_1).f1.f0, (rd_T45 l0 x4_1).f1.f1⟩ : S39)⟩ : S45)] : List (S45))).bind fun y310 => (if y310.length + y303.length < 4398046511104 then (paymasterref10_Sort.l0 k2 l0 (y310 ++ y303) (wrap64 (x4_1 + 1))) else (none))) else (none)))) else (none)) = some r := by first | (rw [hy299]; with_reducible exact H) | (have H2_ := (Option.bind_some _ _).symm.trans H; rw [hy299]; with_reducible exact H2_) | (have H2_ := (Option.bind_some _ _).symm.trans H; with_reducible exact H2_) | with_reducible exact H | (rw [hy299]; exact H) | exact H
              have Ny299 := Aside0.mk hy299
              clear hy299
              by_cases c14 : y296.length + y299.length < 4398046511104
              ·rw [if_pos c14] at H
               have LMc14 := Aside0.mk c14
               clear c14
               obtain ⟨y303, hy303⟩ : ∃ y_ : List (S45), y_ = (y296 ++ y299) := ⟨_, rfl⟩
               replace H : ((some (x3_1.take (x5_2 : Int).toNat : List (S45))).bind fun y306 => (if y306.length < 4398046511104 then ((some (y306 ++ [(⟨(rd_T45 l0 x4_1).f0, (⟨(rd_T45 l0 x4_1).f1.f0, (rd_T45 l0 x4_1).f1.f1⟩ : S39)⟩ : S45)] : List (S45))).bind fun y310 => (if y310.length + y303.length < 4398046511104 then (paymasterref10_Sort.l0 k2 l0 (y310 ++ y303) (wrap64 (x4_1 + 1))) else (none))) else (none))) = some r := by first | (rw [hy303]; with_reducible exact H) | (have H2_ := (Option.bind_some _ _).symm.trans H; rw [hy303]; with_reducible exact H2_) | (have H2_ := (Option.bind_some _ _).symm.trans H; with_reducible exact H2_) | with_reducible exact H | (rw [hy303]; exact H) | exact H
               have Ny303 := Aside0.mk hy303
               clear hy303
               have c15b0 := eq_true (of_decide_eq_true (by first | (with_reducible assumption) | assumption) : x5_2 ≤ (x3_1.length : Int))
               obtain ⟨y306, hy306⟩ : ∃ y_ : List (S45), y_ = (x3_1.take (x5_2 : Int).toNat) := ⟨_, rfl⟩
               replace H : (if y306.length < 4398046511104 then ((some (y306 ++ [(⟨(rd_T45 l0 x4_1).f0, (⟨(rd_T45 l0 x4_1).f1.f0, (rd_T45 l0 x4_1).f1.f1⟩ : S39)⟩ : S45)] : List (S45))).bind fun y310 => (if y310.length + y303.length < 4398046511104 then (paymasterref10_Sort.l0 k2 l0 (y310 ++ y303) (wrap64 (x4_1 + 1))) else (none))) else (none)) = some r := by first | (rw [hy306]; with_reducible exact H) | (have H2_ := (Option.bind_some _ _).symm.trans H; rw [hy306]; with_reducible exact H2_) | (have H2_ := (Option.bind_some _ _).symm.trans H; with_reducible exact H2_) | with_reducible exact H | (rw [hy306]; exact H) | exact H
               have Ny306 := Aside0.mk hy306
               clear hy306
               by_cases c16 : y306.length < 4398046511104
               ·rw [if_pos c16] at H
                have LMc16 := Aside0.mk c16
                clear c16
                obtain ⟨y310, hy310⟩ : ∃ y_ : List (S45), y_ = (y306 ++ [(⟨(rd_T45 l0 x4_1).f0, (⟨(rd_T45 l0 x4_1).f1.f0, (rd_T45 l0 x4_1).f1.f1⟩ : S39)⟩ : S45)]) := ⟨_, rfl⟩
                replace H : (if y310.length + y303.length < 4398046511104 then (paymasterref10_Sort.l0 k2 l0 (y310 ++ y303) (wrap64 (x4_1 + 1))) else (none)) = some r := by first | (rw [hy310]; with_reducible exact H) | (have H2_ := (Option.bind_some _ _).symm.trans H; rw [hy310]; with_reducible exact H2_) | (have H2_ := (Option.bind_some _ _).symm.trans H; with_reducible exact H2_) | with_reducible exact H | (rw [hy310]; exact H) | exact H
                have Ny310 := Aside0.mk hy310
                clear hy310
                by_cases c17 : y310.length + y303.length < 4398046511104
                ·rw [if_pos c17] at H
                 have LMc17 := Aside0.mk c17
                 clear c17
                 obtain ⟨y313, hy313⟩ : ∃ y_ : List (S45), y_ = (y310 ++ y303) := ⟨_, rfl⟩
                 replace H : (paymasterref10_Sort.l0 k2 l0 y313 (wrap64 (x4_1 + 1))) = some r := by first | (rw [hy313]; with_reducible exact H) | (have H2_ := (Option.bind_some _ _).symm.trans H; rw [hy313]; with_reducible exact H2_) | (have H2_ := (Option.bind_some _ _).symm.trans H; with_reducible exact H2_) | with_reducible exact H | (rw [hy313]; exact H) | exact H
                 have Ny313 := Aside0.mk hy313
                 clear hy313
                 have H' := Aside0.mk H
                 clear H
                 try go_wp2
                 have n0_ := Aside0.mk (Kd.R_drew HO_3.out)
                 have n1_ := Aside0.mk (below_drew1 HB.out)
                 clear HO_3
                 clear HB
                 have HO_3 := n0_
                 have HB := n1_
                 clear n0_ n1_
                 have p294 : 0 ≤ ((ji5) : Int) := of_decide_eq_true (by first | (with_reducible assumption) | assumption)
                 have q294 : (ji5) < (x3_1.length : Int) := of_decide_eq_true (by first | (with_reducible assumption) | assumption)
                 obtain ⟨ad294, e294, hx294_0, hx294_1, hx294_2⟩ := at_T45 (Kd.R_reads' HO_3.out).2.2 (ji5) p294 q294
                 cases e294
                 replace p294 := eq_true p294
                 replace q294 := eq_true q294
                 have p295 : 0 ≤ (x4_1 : Int) := of_decide_eq_true (by first | (with_reducible assumption) | assumption)
                 have q295 : x4_1 < (l0.length : Int) := of_decide_eq_true (by first | (with_reducible assumption) | assumption)
                 obtain ⟨ad295, e295, hx295_0, hx295_1, hx295_2⟩ := at_T45 HR0.out x4_1 p295 q295
                 have hw295_2 := hx295_2
                 have hw295_1 := hx295_1
                 have hw295_0 := hx295_0
                 cases e295
                 replace hx295_0 := (HB.out.cell (World.block_lt_of_cell? w _ hx295_0)).trans hx295_0
                 replace hx295_1 := (HB.out.cell (World.block_lt_of_cell? w _ hx295_1)).trans hx295_1
                 replace hx295_2 := (HB.out.cell (World.block_lt_of_cell? w _ hx295_2)).trans hx295_2
                 replace p295 := eq_true p295
                 replace q295 := eq_true q295
                 refine start_ (n := 16) (S := fun w' => w'.cell? (ad294.add (((ji5)).toNat * 3)) = some (.string ((rd_T45 x3_1 (ji5)).f0)) ∧ w'.cell? ⟨(ad294.add (((ji5)).toNat * 3)).block, (ad294.add (((ji5)).toNat * 3)).off + 1, none⟩ = some (.int .u64 ((rd_T45 x3_1 (ji5)).f1.f0)) ∧ w'.cell? ⟨(ad294.add (((ji5)).toNat * 3)).block, (ad294.add (((ji5)).toNat * 3)).off + 2, none⟩ = some (.int .u64 ((rd_T45 x3_1 (ji5)).f1.f1)) ∧ w'.cell? (ad295.add ((x4_1).toNat * 3)) = some (.string ((rd_T45 l0 x4_1).f0)) ∧ w'.cell? ⟨(ad295.add ((x4_1).toNat * 3)).block, (ad295.add ((x4_1).toNat * 3)).off + 1, none⟩ = some (.int .u64 ((rd_T45 l0 x4_1).f1.f0)) ∧ w'.cell? ⟨(ad295.add ((x4_1).toNat * 3)).block, (ad295.add ((x4_1).toNat * 3)).off + 2, none⟩ = some (.int .u64 ((rd_T45 l0 x4_1).f1.f1))) (ds := []) #[false, false, false, false, false, false, false, false, false, false, false, false, false, false, false, false] (by kernel_rfl) rfl rfl ⟨hx294_0, hx294_1, hx294_2, ((HB.out.cell (World.block_lt_of_cell? w _ hw295_0)).trans hw295_0), ((HB.out.cell (World.block_lt_of_cell? w _ hw295_1)).trans hw295_1), ((HB.out.cell (World.block_lt_of_cell? w _ hw295_2)).trans hw295_2)⟩ (fun hHeld => ?_); refine with_tabW paymasterref10_Sort.tab6 paymasterref10_Sort.bits6 (fun HT_ HW_ => ?_)
                 generalize wr.drew = w18 at HO_3 HB hx294_0 hx294_1 hx294_2 hx295_0 hx295_1 hx295_2 hHeld ⊢
                 refine p_ 0 (some 15) HT_ ?_
                 refine p_ 1 (some 16) HT_ ?_
                 refine p_ 2 (some 17) HT_ ?_
                 refine p_ 3 (some 18) HT_ ?_
                 refine p_ 4 (some 19) HT_ ?_
                 refine p_ 5 (some 20) HT_ ?_
                 refine p_ 6 (some 21) HT_ ?_
                 refine p_ 7 (some 22) HT_ ?_
                 refine p_ 9 (some 24) HT_ ?_
                 refine p_ 10 (some 25) HT_ ?_
                 refine p_ 11 (some 26) HT_ ?_
                 refine p_ 12 (some 27) HT_ ?_
                 refine t_ 8 (some 23) HT_ HW_ hHeld ?_
                 refine t_ 13 (some 28) HT_ HW_ hHeld ?_
                 refine p_ 14 (some 29) HT_ ?_
                 refine p_ 15 (some 30) HT_ ?_
                 refine done_ (done_of HT_.out (by kernel_rfl)) ?_
                 try go_wp2_with (first | ((with_reducible refine gate_dst (N := 33) rfl ?_); refine Kd.R_lit k45 _ 45 ?hg (N := 33) ?hd (xs := ([] : List (S45))) (inner := []) (ok := fun _ => True) (okp := fun _ => True) ?hr ?hp (fun _ hk => hk) trivial (Below.refl _ _) (Nat.le_refl _) (by simp) ?_; (case hd => rfl); (case hg => rfl); (case hr => first | (go_simp; done) | (go_simp; rfl)); (case hp => exact (Reps.none _ _)); intro v297 w19 ho20 hb hg_ hnew_; clear hg_ hnew_; (first | rw [← Ny296.out] at ho20 | (simp only [Int.reduceToNat] at ho20; rw [← Ny296.out] at ho20)); have n0_ := Aside0.mk (Kd.R_elder' (by (with_reducible repeat (first | apply Kd.R_alloc | apply Kd.R_drewN | apply Kd.R_drew)); exact HO_3.out) (Kd.R_base ho20) hb); have n1_ := Aside0.mk (Kd.R_lower (Kd.R_new' ho20 (Kd.R_lt (by (with_reducible repeat (first | apply Kd.R_alloc | apply Kd.R_drewN | apply Kd.R_drew)); exact HO_3.out))) (below_size (by repeat (first | (with_reducible first | exact HB.out | apply below_alloc | apply pw_below_drewN | apply below_drew1) | exact HB.out)))); have n2_ := Aside0.mk (below_step (by repeat (first | (with_reducible first | exact HB.out | apply below_alloc | apply pw_below_drewN | apply below_drew1) | exact HB.out)) hb); clear HO_3; clear HB; have HO_3 := n0_; have HO298 := n1_; have HB := n2_; clear n0_ n1_ n2_; clear hb ho20; have q21 : (x5_2 : Int) ≤ ((x3_1.length : Int) : Int) := of_decide_eq_true (by first | (with_reducible assumption) | assumption); obtain ⟨i021, hi021, _, hsz21, _⟩ := info_parts info45; have hroom21 : x3_1.length ≤ co3 := (Kd.R_reads' HO_3.out).2.1; have hC21 : Kd.C k45 _ (some ad294) x3_1.length x3_1 := (Kd.R_reads' HO_3.out).2.2; have q021 : (0 : Int) ≤ (x5_2 : Int) := of_decide_eq_true (by first | (with_reducible assumption) | assumption); have hcut21 := cut_from (P := Tryz.prog) 23 45 .i64 Tryz.underlying23 hi021 3 hsz21 (some ad294) x3_1.length co3 x5_2 q021 q21; have hr21 := Kd.C_drop (m := (x5_2 : Int).toNat) (c := co3) hC21 (by omega) hroom21; obtain ⟨A21, hA21⟩ : ∃ A1, A1 = (if co3 = (x5_2 : Int).toNat then (some ad294) else ((some ad294) : Option Addr).map (·.add ((x5_2 : Int).toNat * 3))) := ⟨_, rfl⟩; obtain ⟨c21, hc21⟩ : ∃ c1, c1 = co3 - (x5_2 : Int).toNat := ⟨_, rfl⟩; have hy21 : y299.length = x3_1.length - (x5_2 : Int).toNat := (by rw [Ny299.out, List.length_drop] <;> omega); rw [show (x3_1).drop (x5_2 : Int).toNat = y299 from Ny299.out.symm] at hr21; replace hr21 : Kd.C k45 _ A21 y299.length y299 := (by rw [hA21]; exact hr21); rw [← hy21, ← hA21, ← hc21] at hcut21; have HR302 := Aside0.mk hr21; have HC302 := Aside0.mk (show y299.length ≤ c21 from by rw [hy21, hc21]; exact Nat.sub_le_sub_right hroom21 _); clear hr21 hC21 hroom21 hi021 hsz21 hc21; have KY21 := Aside0.mk hy21; have KA21 := Aside0.mk hA21; clear hy21 hA21; have KL21 := Aside0.mk (show (x5_2 : Int).toNat ≤ x3_1.length from by omega); replace q21 := eq_true q21) | ((with_reducible refine gate_builtin (b := .append) (xs := #[.tmp 33, .tmp 36]) rfl ?_); at_builtin; refine Kd.R_append_rows k45 (w0 := w) w.heap.size rfl (.tmp 33) (.tmp 36) 23 45 (.agg #[(.string ⟨#[]⟩), (.int .u64 0), (.int .u64 0)]) 32 rfl Tryz.underlying23 info45 rfl (by decide) (by omega) v297 y296 y299 _ _ _ (fun k_ => some k_ ≠ (.slice (some ad294) x3_1.length co3 : Value).ownBlock) (fun _ => False) rfl rfl ?aO ?aR (fun _ _ h => h) (fun _ h => h.elim) ?aF ?aB ?aS ?aL ?_; (case aR => repeat (first | exact (by repeat (first | (with_reducible exact HR302.out) | (with_reducible refine Kd.C_alloc ?_ _) | (with_reducible refine Kd.C_drewN ?_ _) | (with_reducible refine Kd.C_drew ?_) | exact HR302.out)) | (with_reducible refine Kd.C_alloc ?_ _) | (with_reducible refine Kd.C_drewN ?_ _) | (with_reducible refine Kd.C_drew ?_))); (case aB => exact (by repeat (first | (with_reducible first | exact HB.out | apply below_alloc | apply pw_below_drewN | apply below_drew1) | exact HB.out))); (case aF => exact (fun k_ hk => Kd.fresh' (Kd.R_lt (by (with_reducible repeat (first | apply Kd.R_alloc | apply Kd.R_drewN | apply Kd.R_drew)); exact HO_3.out)) k_ hk)); (case aO => exact (by (with_reducible repeat (first | apply Kd.R_alloc | apply Kd.R_drewN | apply Kd.R_drew)); exact Kd.R_mono HO298.out (fun _ hk => hk.2))); (case aS => exact (below_size (by repeat (first | (with_reducible first | exact HB.out | apply below_alloc | apply pw_below_drewN | apply below_drew1) | exact HB.out)))); (case aL => have := LMc14.out; omega); intro v304 w22 ho hb hg hat; rw [← Ny303.out] at ho; have n0_ := Aside0.mk (Kd.R_after (ok := (fun _ => True)) (by (with_reducible repeat (first | apply Kd.R_alloc | apply Kd.R_drewN | apply Kd.R_drew)); exact HO_3.out) hg hat); have n1_ := Aside0.mk (hb); have n2_ := Aside0.mk ((show Kd.C k45 w22 A21 y299.length y299 from by rw [Ny299.out, KA21.out]; exact Kd.C_drop (m := (x5_2 : Int).toNat) (c := co3) ((Kd.R_reads' (Kd.R_after (ok := (fun _ => True)) (by (with_reducible repeat (first | apply Kd.R_alloc | apply Kd.R_drewN | apply Kd.R_drew)); exact HO_3.out) hg hat)).2.2) KL21.out ((Kd.R_reads' (Kd.R_after (ok := (fun _ => True)) (by (with_reducible repeat (first | apply Kd.R_alloc | apply Kd.R_drewN | apply Kd.R_drew)); exact HO_3.out) hg hat)).2.1))); have n3_ := Aside0.mk (ho); clear HO_3; clear HB; clear HR302; clear HO298; have HO_3 := n0_; have HB := n1_; have HR302 := n2_; have HO305 := n3_; clear n0_ n1_ n2_ n3_; clear ho hb hg hat))
                 have n0_ := Aside0.mk (Kd.R_drew HO_3.out)
                 have n1_ := Aside0.mk (Kd.R_drew HO305.out)
                 have n2_ := Aside0.mk (Kd.C_drew HR302.out)
                 have n3_ := Aside0.mk (below_drew1 HB.out)
                 clear HO_3
                 clear HO305
                 clear HR302
                 clear HB
                 have HO_3 := n0_
                 have HO305 := n1_
                 have HR302 := n2_
                 have HB := n3_
                 clear n0_ n1_ n2_ n3_
                 have q24 : (x5_2 : Int) ≤ ((x3_1.length : Int) : Int) := of_decide_eq_true (by first | (with_reducible assumption) | assumption)
                 obtain ⟨i024, hi024, _, hsz24, _⟩ := info_parts info45
                 have hcut24 := cut_to (P := Tryz.prog) 23 45 .i64 Tryz.underlying23 hi024 (some ad294) x3_1.length co3 x5_2 (of_decide_eq_true (by first | (with_reducible assumption) | assumption)) q24 (Kd.R_reads' HO_3.out).2.1
                 have hr24 := Kd.R_take (m := (x5_2 : Int).toNat) HO_3.out (by omega)
                 have hy24 : y306.length = (x5_2 : Int).toNat := (by rw [Ny306.out, List.length_take]; omega)
                 rw [← Ny306.out] at hr24
                 rw [← hy24] at hr24 hcut24
                 clear hy24 hi024 hsz24 HO_3
                 have HO308 := Aside0.mk hr24
                 clear hr24
                 replace q24 := eq_true q24
                 have p309 : 0 ≤ (x4_1 : Int) := of_decide_eq_true (by first | (with_reducible assumption) | assumption)
                 have q309 : x4_1 < (l0.length : Int) := of_decide_eq_true (by first | (with_reducible assumption) | assumption)
                 obtain ⟨ad309, e309, hx309_0, hx309_1, hx309_2⟩ := at_T45 HR0.out x4_1 p309 q309
                 have hw309_2 := hx309_2
                 have hw309_1 := hx309_1
                 have hw309_0 := hx309_0
                 obtain rfl : ad295 = ad309 := (by injection e309)
                 replace hx309_0 := (HB.out.cell (World.block_lt_of_cell? w _ hx309_0)).trans hx309_0
                 replace hx309_1 := (HB.out.cell (World.block_lt_of_cell? w _ hx309_1)).trans hx309_1
                 replace hx309_2 := (HB.out.cell (World.block_lt_of_cell? w _ hx309_2)).trans hx309_2
                 replace p309 := eq_true p309
                 replace q309 := eq_true q309
                 refine start_ (n := 12) (S := fun w' => w'.cell? (ad295.add ((x4_1).toNat * 3)) = some (.string ((rd_T45 l0 x4_1).f0)) ∧ w'.cell? ⟨(ad295.add ((x4_1).toNat * 3)).block, (ad295.add ((x4_1).toNat * 3)).off + 1, none⟩ = some (.int .u64 ((rd_T45 l0 x4_1).f1.f0)) ∧ w'.cell? ⟨(ad295.add ((x4_1).toNat * 3)).block, (ad295.add ((x4_1).toNat * 3)).off + 2, none⟩ = some (.int .u64 ((rd_T45 l0 x4_1).f1.f1))) (ds := []) #[false, false, false, false, false, false, false, false, false, false, false, false] (by kernel_rfl) rfl rfl ⟨((HB.out.cell (World.block_lt_of_cell? w _ hw309_0)).trans hw309_0), ((HB.out.cell (World.block_lt_of_cell? w _ hw309_1)).trans hw309_1), ((HB.out.cell (World.block_lt_of_cell? w _ hw309_2)).trans hw309_2)⟩ (fun hHeld => ?_); refine with_tabW paymasterref10_Sort.tab9 paymasterref10_Sort.bits9 (fun HT_ HW_ => ?_)
                 generalize w22.drew = w23 at HO_3 HO305 HR302 HB HO308 hx309_0 hx309_1 hx309_2 hHeld ⊢
                 refine p_ 0 (some 38) HT_ ?_
                 refine p_ 1 (some 39) HT_ ?_
                 refine p_ 2 (some 40) HT_ ?_
                 refine p_ 3 (some 41) HT_ ?_
                 refine p_ 4 (some 42) HT_ ?_
                 refine p_ 5 (some 43) HT_ ?_
                 refine p_ 9 (some 47) HT_ ?_
                 refine t_ 6 (some 44) HT_ HW_ hHeld ?_
                 refine one_ (i := 7) (N := some 45) #[true, true, true, true, true, true, true, true, false, true, false, false] rfl rfl (one_of HT_.out (by kernel_rfl)) (by decide) (fun K hK => ?_)
                 refine value_ (w1 := ?_) (v := ?_) (by rfl) rfl ?_ ?_
                 rotate_left 2
                 ·go_simp
                  constructor
                  ·rfl
                  ·rfl
                 refine hK.out _ _ ⟨(World.cell?_alloc_lt _ _ _ (World.block_lt_of_cell? _ _ (((HB.out.cell (World.block_lt_of_cell? w _ hw309_0)).trans hw309_0)))).trans (((HB.out.cell (World.block_lt_of_cell? w _ hw309_0)).trans hw309_0)), (World.cell?_alloc_lt _ _ _ (World.block_lt_of_cell? _ _ (((HB.out.cell (World.block_lt_of_cell? w _ hw309_1)).trans hw309_1)))).trans (((HB.out.cell (World.block_lt_of_cell? w _ hw309_1)).trans hw309_1)), (World.cell?_alloc_lt _ _ _ (World.block_lt_of_cell? _ _ (((HB.out.cell (World.block_lt_of_cell? w _ hw309_2)).trans hw309_2)))).trans (((HB.out.cell (World.block_lt_of_cell? w _ hw309_2)).trans hw309_2))⟩ (fun hHeld => ?_)
                 clear hK K
                 refine norm_ (a' := ?_) ?_ ?_
                 rotate_left
                 ·show Act.put _ (some 45) _ = _
                  simp only [Act.put, List.setIfInBounds_toArray, List.set_cons_zero, List.set_cons_succ, i64_w, i32_w]
                  rfl
                 refine one_ (i := 8) (N := some 46) #[true, true, true, true, true, true, true, true, true, true, false, false] rfl rfl (one_of HT_.out (by kernel_rfl)) (by decide) (fun K hK => ?_)
                 refine Kd.R_append_step k45 (w0 := w) w.heap.size (by rfl) (.tmp 40) (.tmp 45) 23 45 (.agg #[(.string ⟨#[]⟩), (.int .u64 0), (.int .u64 0)]) 32 rfl Tryz.underlying23 info45 rfl (by decide) (by omega) (.slice (some ad294) y306.length co3) y306 (⟨(rd_T45 l0 x4_1).f0, (⟨(rd_T45 l0 x4_1).f1.f0, (rd_T45 l0 x4_1).f1.f1⟩ : S39)⟩ : S45) [.string ((rd_T45 l0 x4_1).f0), .int .u64 ((rd_T45 l0 x4_1).f1.f0), .int .u64 ((rd_T45 l0 x4_1).f1.f1)] (fun k_ => some k_ ≠ (v304 : Value).ownBlock) (fun _ => False) rfl rfl ?aP (fun _ hk => hk.elim) ?aF ?aO ?aB ?aS ?aL ?_
                 (case aP => exact k45_mkM _ _ _ (⟨(rd_T45 l0 x4_1).f0, (⟨(rd_T45 l0 x4_1).f1.f0, (rd_T45 l0 x4_1).f1.f1⟩ : S39)⟩ : S45))
                 (case aB => exact (by repeat (first | (with_reducible first | exact HB.out | apply below_alloc | apply pw_below_drewN | apply below_drew1) | exact HB.out)))
                 (case aF => exact (fun k_ hk => Kd.fresh' (Kd.R_lt (by (with_reducible repeat (first | apply Kd.R_alloc | apply Kd.R_drewN | apply Kd.R_drew)); exact HO305.out)) k_ hk))
                 (case aO => exact (by (with_reducible repeat (first | apply Kd.R_alloc | apply Kd.R_drewN | apply Kd.R_drew)); exact Kd.R_mono HO308.out (fun _ hk => hk.2)))
                 (case aS => exact (below_size (by repeat (first | (with_reducible first | exact HB.out | apply below_alloc | apply pw_below_drewN | apply below_drew1) | exact HB.out))))
                 (case aL => have := LMc16.out; omega)
                 intro v311 w25 ho hb hg hat
                 rw [← Ny310.out] at ho
                 have n0_ := Aside0.mk (Kd.R_after (ok := (fun _ => True)) (by (with_reducible repeat (first | apply Kd.R_alloc | apply Kd.R_drewN | apply Kd.R_drew)); exact Kd.R_mono HO305.out (fun _ hk => ⟨trivial, by first | exact hk | exact fun e => hk (e.trans (own_len _ _ _ _ _))⟩)) hg hat)
                 have n1_ := Aside0.mk (hb)
                 have n2_ := Aside0.mk (ho)
                 clear HO305
                 clear HB
                 clear HO308
                 have HO305 := n0_
                 have HB := n1_
                 have HO312 := n2_
                 clear n0_ n1_ n2_
                 clear ho hb hg hat
                 obtain ⟨Ao27, co27, eo27⟩ := Kd.R_slice HO305.out
                 (first | subst eo27 | (injection eo27 with f1_ f2_ f3_; have f4_ := f1_.symm; have f5_ := f3_.symm; clear f1_ f2_ f3_; subst f4_; subst f5_))
                 refine hK.out _ _ ⟨((HB.out.cell (World.block_lt_of_cell? w _ hw309_0)).trans hw309_0), ((HB.out.cell (World.block_lt_of_cell? w _ hw309_1)).trans hw309_1), ((HB.out.cell (World.block_lt_of_cell? w _ hw309_2)).trans hw309_2)⟩ (fun hHeld => ?_)
                 clear hK K
                 refine norm_ (a' := ?_) ?_ ?_
                 rotate_left
                 ·show Act.put _ (some 46) _ = _
                  simp only [Act.put, List.setIfInBounds_toArray, List.set_cons_zero, List.set_cons_succ, i64_w, i32_w]
                  rfl
                 refine one_ (i := 10) (N := some 48) #[true, true, true, true, true, true, true, true, true, true, true, false] rfl rfl (one_of HT_.out (by kernel_rfl)) (by decide) (fun K hK => ?_)
                 refine Kd.R_append_rows_step k45 (w0 := w) w.heap.size (by rfl) (.tmp 46) (.tmp 47) 23 45 (.agg #[(.string ⟨#[]⟩), (.int .u64 0), (.int .u64 0)]) 32 rfl Tryz.underlying23 info45 rfl (by decide) (by omega) v311 y310 y303 _ _ _ (fun k_ => some k_ ≠ (.slice Ao27 y303.length co27 : Value).ownBlock) (fun _ => False) rfl rfl ?aO ?aR (fun _ _ h => h) (fun _ h => h.elim) ?aF ?aB ?aS ?aL ?_
                 (case aR => repeat (first | exact (Kd.R_reads' HO305.out).2.2 | (with_reducible refine Kd.C_alloc ?_ _) | (with_reducible refine Kd.C_drewN ?_ _) | (with_reducible refine Kd.C_drew ?_)))
                 (case aB => exact (by repeat (first | (with_reducible first | exact HB.out | apply below_alloc | apply pw_below_drewN | apply below_drew1) | exact HB.out)))
                 (case aF => exact (fun k_ hk => Kd.fresh' (Kd.R_lt (by (with_reducible repeat (first | apply Kd.R_alloc | apply Kd.R_drewN | apply Kd.R_drew)); exact HO305.out)) k_ hk))
                 (case aO => exact (by (with_reducible repeat (first | apply Kd.R_alloc | apply Kd.R_drewN | apply Kd.R_drew)); exact HO312.out))
                 (case aS => exact (below_size (by repeat (first | (with_reducible first | exact HB.out | apply below_alloc | apply pw_below_drewN | apply below_drew1) | exact HB.out))))
                 (case aL => have := LMc17.out; omega)
                 intro v314 w26 ho hb hg hat
                 rw [← Ny313.out] at ho
                 have n0_ := Aside0.mk (Kd.R_after (ok := (fun _ => True)) (by (with_reducible repeat (first | apply Kd.R_alloc | apply Kd.R_drewN | apply Kd.R_drew)); exact HO305.out) hg hat)
                 have n1_ := Aside0.mk (hb)
                 have n2_ := Aside0.mk (ho)
                 clear HO305
                 clear HB
                 clear HO312
                 have HO305 := n0_
                 have HB := n1_
                 have HO315 := n2_
                 clear n0_ n1_ n2_
                 clear ho hb hg hat
                 refine hK.out _ _ ⟨((HB.out.cell (World.block_lt_of_cell? w _ hw309_0)).trans hw309_0), ((HB.out.cell (World.block_lt_of_cell? w _ hw309_1)).trans hw309_1), ((HB.out.cell (World.block_lt_of_cell? w _ hw309_2)).trans hw309_2)⟩ (fun hHeld => ?_)
                 clear hK K
                 refine norm_ (a' := ?_) ?_ ?_
                 rotate_left
                 ·show Act.put _ (some 48) _ = _
                  simp only [Act.put, List.setIfInBounds_toArray, List.set_cons_zero, List.set_cons_succ, i64_w, i32_w]
                  rfl
                 refine p_ 11 (some 3) HT_ ?_
                 refine done_ (done_of HT_.out (by kernel_rfl)) ?_
                 try go_wp2
                 go_roundg k2
                 case measure => have := HK1.out; have := HK2.out; omega
                 case rel => exact ⟨(y313), (wrap64 (x4_1 + 1)), (by first | rfl | (simp; done) | (simp [*]; done)), H', ⟨by have := HK1.out; have := HK2.out; omega⟩, ⟨by (with_reducible repeat (first | apply Kd.R_alloc | apply Kd.R_drewN | apply Kd.R_drew)); exact Kd.R_mono HO315.out (fun _ hk => trivial)⟩, ⟨by repeat (first | (with_reducible first | exact HB.out | apply below_alloc | apply pw_below_drewN | apply below_drew1) | exact HB.out)⟩⟩
                ·rw [if_neg c17] at H
                 exact absurd H (by simp)
               ·rw [if_neg c16] at H
                exact absurd H (by simp)
              ·rw [if_neg c14] at H
               exact absurd H (by simp)
             ·rw [if_neg c13] at H
              exact absurd H (by simp)
            ·rw [if_neg c12] at H
             exact absurd H (by simp)
          ·rw [if_neg c9] at H
           exact absurd H (by simp)
         ·rw [if_neg c8] at H
          exact absurd H (by simp)
        ·rw [if_neg c7] at H
         exact absurd H (by simp)
       ·rw [if_neg c6] at H
        exact absurd H (by simp)
      ·rw [if_neg c4] at H
       have c4b0 : decide (0 < x5_2) = false := decide_eq_false c4
       clear c4
       obtain ⟨y316, hy316⟩ : ∃ y_ : List (S45), y_ = (([] : List (S45))) := ⟨_, rfl⟩
       replace H : (if 0 ≤ x5_2 then (if x5_2 ≤ (x3_1.length : Int) then ((some (x3_1.drop (x5_2 : Int).toNat : List (S45))).bind fun y319 => (if y316.length + y319.length < 4398046511104 then ((some (y316 ++ y319 : List (S45))).bind fun y323 => ((some (x3_1.take (x5_2 : Int).toNat : List (S45))).bind fun y326 => (if 0 ≤ x4_1 then (if x4_1 < (l0.length : Int) then (if y326.length < 4398046511104 then ((some (y326 ++ [(⟨(rd_T45 l0 x4_1).f0, (⟨(rd_T45 l0 x4_1).f1.f0, (rd_T45 l0 x4_1).f1.f1⟩ : S39)⟩ : S45)] : List (S45))).bind fun y330 => (if y330.length + y323.length < 4398046511104 then (paymasterref10_Sort.l0 k2 l0 (y330 ++ y323) (wrap64 (x4_1 + 1))) else (none))) else (none)) else (none)) else (none)))) else (none))) else (none)) else (none)) = some r := by first | (rw [hy316]; with_reducible exact H) | (have H2_ := (Option.bind_some _ _).symm.trans H; rw [hy316]; with_reducible exact H2_) | (have H2_ := (Option.bind_some _ _).symm.trans H; with_reducible exact H2_) | with_reducible exact H | (rw [hy316]; exact H) | exact H
       have Ny316 := Aside0.mk hy316
       clear hy316
       by_cases c28 : 0 ≤ x5_2
       ·rw [if_pos c28] at H
        have c28b0 := eq_true c28
        have c28b1 : decide (0 ≤ x5_2) = true := decide_eq_true c28
        clear c28
        by_cases c29 : x5_2 ≤ (x3_1.length : Int)
        ·rw [if_pos c29] at H
         have c29b0 := eq_true c29
         have c29b1 : decide (x5_2 ≤ (x3_1.length : Int)) = true := decide_eq_true c29
         clear c29
         obtain ⟨y319, hy319⟩ : ∃ y_ : List (S45), y_ = (x3_1.drop (x5_2 : Int).toNat) := ⟨_, rfl⟩
         replace H : (if y316.length + y319.length < 4398046511104 then ((some (y316 ++ y319 : List (S45))).bind fun y323 => ((some (x3_1.take (x5_2 : Int).toNat : List (S45))).bind fun y326 => (if 0 ≤ x4_1 then (if x4_1 < (l0.length : Int) then (if y326.length < 4398046511104 then ((some (y326 ++ [(⟨(rd_T45 l0 x4_1).f0, (⟨(rd_T45 l0 x4_1).f1.f0, (rd_T45 l0 x4_1).f1.f1⟩ : S39)⟩ : S45)] : List (S45))).bind fun y330 => (if y330.length + y323.length < 4398046511104 then (paymasterref10_Sort.l0 k2 l0 (y330 ++ y323) (wrap64 (x4_1 + 1))) else (none))) else (none)) else (none)) else (none)))) else (none)) = some r := by first | (rw [hy319]; with_reducible exact H) | (have H2_ := (Option.bind_some _ _).symm.trans H; rw [hy319]; with_reducible exact H2_) | (have H2_ := (Option.bind_some _ _).symm.trans H; with_reducible exact H2_) | with_reducible exact H | (rw [hy319]; exact H) | exact H
         have Ny319 := Aside0.mk hy319
         clear hy319
         by_cases c30 : y316.length + y319.length < 4398046511104
         ·rw [if_pos c30] at H
          have LMc30 := Aside0.mk c30
          clear c30
          obtain ⟨y323, hy323⟩ : ∃ y_ : List (S45), y_ = (y316 ++ y319) := ⟨_, rfl⟩
          replace H : ((some (x3_1.take (x5_2 : Int).toNat : List (S45))).bind fun y326 => (if 0 ≤ x4_1 then (if x4_1 < (l0.length : Int) then (if y326.length < 4398046511104 then ((some (y326 ++ [(⟨(rd_T45 l0 x4_1).f0, (⟨(rd_T45 l0 x4_1).f1.f0, (rd_T45 l0 x4_1).f1.f1⟩ : S39)⟩ : S45)] : List (S45))).bind fun y330 => (if y330.length + y323.length < 4398046511104 then (paymasterref10_Sort.l0 k2 l0 (y330 ++ y323) (wrap64 (x4_1 + 1))) else (none))) else (none)) else (none)) else (none))) = some r := by first | (rw [hy323]; with_reducible exact H) | (have H2_ := (Option.bind_some _ _).symm.trans H; rw [hy323]; with_reducible exact H2_) | (have H2_ := (Option.bind_some _ _).symm.trans H; with_reducible exact H2_) | with_reducible exact H | (rw [hy323]; exact H) | exact H
          have Ny323 := Aside0.mk hy323
          clear hy323
          have c31b0 := eq_true (of_decide_eq_true (by first | (with_reducible assumption) | assumption) : x5_2 ≤ (x3_1.length : Int))
          obtain ⟨y326, hy326⟩ : ∃ y_ : List (S45), y_ = (x3_1.take (x5_2 : Int).toNat) := ⟨_, rfl⟩
          replace H : (if 0 ≤ x4_1 then (if x4_1 < (l0.length : Int) then (if y326.length < 4398046511104 then ((some (y326 ++ [(⟨(rd_T45 l0 x4_1).f0, (⟨(rd_T45 l0 x4_1).f1.f0, (rd_T45 l0 x4_1).f1.f1⟩ : S39)⟩ : S45)] : List (S45))).bind fun y330 => (if y330.length + y323.length < 4398046511104 then (paymasterref10_Sort.l0 k2 l0 (y330 ++ y323) (wrap64 (x4_1 + 1))) else (none))) else (none)) else (none)) else (none)) = some r := by first | (rw [hy326]; with_reducible exact H) | (have H2_ := (Option.bind_some _ _).symm.trans H; rw [hy326]; with_reducible exact H2_) | (have H2_ := (Option.bind_some _ _).symm.trans H; with_reducible exact H2_) | with_reducible exact H | (rw [hy326]; exact H) | exact H
          have Ny326 := Aside0.mk hy326
          clear hy326
          by_cases c32 : 0 ≤ x4_1
          ·rw [if_pos c32] at H
           have c32b0 : decide (0 ≤ x4_1) = true := decide_eq_true c32
           clear c32
           by_cases c33 : x4_1 < (l0.length : Int)
           ·rw [if_pos c33] at H
            have c33b0 : decide (x4_1 < (l0.length : Int)) = true := decide_eq_true c33
            clear c33
            by_cases c34 : y326.length < 4398046511104
            ·rw [if_pos c34] at H
             have LMc34 := Aside0.mk c34
             clear c34
             obtain ⟨y330, hy330⟩ : ∃ y_ : List (S45), y_ = (y326 ++ [(⟨(rd_T45 l0 x4_1).f0, (⟨(rd_T45 l0 x4_1).f1.f0, (rd_T45 l0 x4_1).f1.f1⟩ : S39)⟩ : S45)]) := ⟨_, rfl⟩
             replace H : (if y330.length + y323.length < 4398046511104 then (paymasterref10_Sort.l0 k2 l0 (y330 ++ y323) (wrap64 (x4_1 + 1))) else (none)) = some r := by first | (rw [hy330]; with_reducible exact H) | (have H2_ := (Option.bind_some _ _).symm.trans H; rw [hy330]; with_reducible exact H2_) | (have H2_ := (Option.bind_some _ _).symm.trans H; with_reducible exact H2_) | with_reducible exact H | (rw [hy330]; exact H) | exact H
             have Ny330 := Aside0.mk hy330
             clear hy330
             by_cases c35 : y330.length + y323.length < 4398046511104
             ·rw [if_pos c35] at H
              have LMc35 := Aside0.mk c35
              clear c35
              obtain ⟨y333, hy333⟩ : ∃ y_ : List (S45), y_ = (y330 ++ y323) := ⟨_, rfl⟩
              replace H : (paymasterref10_Sort.l0 k2 l0 y333 (wrap64 (x4_1 + 1))) = some r := by first | (rw [hy333]; with_reducible exact H) | (have H2_ := (Option.bind_some _ _).symm.trans H; rw [hy333]; with_reducible exact H2_) | (have H2_ := (Option.bind_some _ _).symm.trans H; with_reducible exact H2_) | with_reducible exact H | (rw [hy333]; exact H) | exact H
              have Ny333 := Aside0.mk hy333
              clear hy333
              have H' := Aside0.mk H
              clear H
              try go_wp2
              have n0_ := Aside0.mk (Kd.R_drew HO_3.out)
              have n1_ := Aside0.mk (below_drew1 HB.out)
              clear HO_3
              clear HB
              have HO_3 := n0_
              have HB := n1_
              clear n0_ n1_
              refine start_ (n := 16) (S := fun w' => True) (ds := []) #[false, false, false, false, false, false, false, false, false, false, false, false, false, false, false, false] (by kernel_rfl) rfl rfl trivial (fun hHeld => ?_); refine with_tabW paymasterref10_Sort.tab6 paymasterref10_Sort.bits6 (fun HT_ HW_ => ?_)
              generalize wr.drew = w36 at HO_3 HB hHeld ⊢
              refine p_ 0 (some 15) HT_ ?_
              refine p_ 1 (some 16) HT_ ?_
              refine p_ 2 (some 17) HT_ ?_
              refine o_ 3 (some 18) HT_ ?_
              refine o_ 4 (some 19) HT_ ?_
              refine o_ 5 (some 20) HT_ ?_
              refine o_ 6 (some 21) HT_ ?_
              refine o_ 7 (some 22) HT_ ?_
              refine o_ 8 (some 23) HT_ ?_
              refine o_ 9 (some 24) HT_ ?_
              refine o_ 10 (some 25) HT_ ?_
              refine o_ 11 (some 26) HT_ ?_
              refine o_ 12 (some 27) HT_ ?_
              refine o_ 13 (some 28) HT_ ?_
              refine o_ 14 (some 29) HT_ ?_
              refine p_ 15 (some 30) HT_ ?_
              refine done_ (done_of HT_.out (by kernel_rfl)) ?_
              try go_wp2_with (first | ((with_reducible refine gate_dst (N := 33) rfl ?_); refine Kd.R_lit k45 _ 45 ?hg (N := 33) ?hd (xs := ([] : List (S45))) (inner := []) (ok := fun _ => True) (okp := fun _ => True) ?hr ?hp (fun _ hk => hk) trivial (Below.refl _ _) (Nat.le_refl _) (by simp) ?_; (case hd => rfl); (case hg => rfl); (case hr => first | (go_simp; done) | (go_simp; rfl)); (case hp => exact (Reps.none _ _)); intro v317 w37 ho38 hb hg_ hnew_; clear hg_ hnew_; (first | rw [← Ny316.out] at ho38 | (simp only [Int.reduceToNat] at ho38; rw [← Ny316.out] at ho38)); have n0_ := Aside0.mk (Kd.R_elder' (by (with_reducible repeat (first | apply Kd.R_alloc | apply Kd.R_drewN | apply Kd.R_drew)); exact HO_3.out) (Kd.R_base ho38) hb); have n1_ := Aside0.mk (Kd.R_lower (Kd.R_new' ho38 (Kd.R_lt (by (with_reducible repeat (first | apply Kd.R_alloc | apply Kd.R_drewN | apply Kd.R_drew)); exact HO_3.out))) (below_size (by repeat (first | (with_reducible first | exact HB.out | apply below_alloc | apply pw_below_drewN | apply below_drew1) | exact HB.out)))); have n2_ := Aside0.mk (below_step (by repeat (first | (with_reducible first | exact HB.out | apply below_alloc | apply pw_below_drewN | apply below_drew1) | exact HB.out)) hb); clear HO_3; clear HB; have HO_3 := n0_; have HO318 := n1_; have HB := n2_; clear n0_ n1_ n2_; clear hb ho38; have q39 : (x5_2 : Int) ≤ ((x3_1.length : Int) : Int) := of_decide_eq_true (by first | (with_reducible assumption) | assumption); obtain ⟨i039, hi039, _, hsz39, _⟩ := info_parts info45; have hroom39 : x3_1.length ≤ co3 := (Kd.R_reads' HO_3.out).2.1; have hC39 : Kd.C k45 _ Ao3 x3_1.length x3_1 := (Kd.R_reads' HO_3.out).2.2; have q039 : (0 : Int) ≤ (x5_2 : Int) := of_decide_eq_true (by first | (with_reducible assumption) | assumption); have hcut39 := cut_from (P := Tryz.prog) 23 45 .i64 Tryz.underlying23 hi039 3 hsz39 Ao3 x3_1.length co3 x5_2 q039 q39; have hr39 := Kd.C_drop (m := (x5_2 : Int).toNat) (c := co3) hC39 (by omega) hroom39; obtain ⟨A39, hA39⟩ : ∃ A1, A1 = (if co3 = (x5_2 : Int).toNat then Ao3 else (Ao3 : Option Addr).map (·.add ((x5_2 : Int).toNat * 3))) := ⟨_, rfl⟩; obtain ⟨c39, hc39⟩ : ∃ c1, c1 = co3 - (x5_2 : Int).toNat := ⟨_, rfl⟩; have hy39 : y319.length = x3_1.length - (x5_2 : Int).toNat := (by rw [Ny319.out, List.length_drop] <;> omega); rw [show (x3_1).drop (x5_2 : Int).toNat = y319 from Ny319.out.symm] at hr39; replace hr39 : Kd.C k45 _ A39 y319.length y319 := (by rw [hA39]; exact hr39); rw [← hy39, ← hA39, ← hc39] at hcut39; have HR322 := Aside0.mk hr39; have HC322 := Aside0.mk (show y319.length ≤ c39 from by rw [hy39, hc39]; exact Nat.sub_le_sub_right hroom39 _); clear hr39 hC39 hroom39 hi039 hsz39 hc39; have KY39 := Aside0.mk hy39; have KA39 := Aside0.mk hA39; clear hy39 hA39; have KL39 := Aside0.mk (show (x5_2 : Int).toNat ≤ x3_1.length from by omega); replace q39 := eq_true q39) | ((with_reducible refine gate_builtin (b := .append) (xs := #[.tmp 33, .tmp 36]) rfl ?_); at_builtin; refine Kd.R_append_rows k45 (w0 := w) w.heap.size rfl (.tmp 33) (.tmp 36) 23 45 (.agg #[(.string ⟨#[]⟩), (.int .u64 0), (.int .u64 0)]) 32 rfl Tryz.underlying23 info45 rfl (by decide) (by omega) v317 y316 y319 _ _ _ (fun k_ => some k_ ≠ (.slice Ao3 x3_1.length co3 : Value).ownBlock) (fun _ => False) rfl rfl ?aO ?aR (fun _ _ h => h) (fun _ h => h.elim) ?aF ?aB ?aS ?aL ?_; (case aR => repeat (first | exact (by repeat (first | (with_reducible exact HR322.out) | (with_reducible refine Kd.C_alloc ?_ _) | (with_reducible refine Kd.C_drewN ?_ _) | (with_reducible refine Kd.C_drew ?_) | exact HR322.out)) | (with_reducible refine Kd.C_alloc ?_ _) | (with_reducible refine Kd.C_drewN ?_ _) | (with_reducible refine Kd.C_drew ?_))); (case aB => exact (by repeat (first | (with_reducible first | exact HB.out | apply below_alloc | apply pw_below_drewN | apply below_drew1) | exact HB.out))); (case aF => exact (fun k_ hk => Kd.fresh' (Kd.R_lt (by (with_reducible repeat (first | apply Kd.R_alloc | apply Kd.R_drewN | apply Kd.R_drew)); exact HO_3.out)) k_ hk)); (case aO => exact (by (with_reducible repeat (first | apply Kd.R_alloc | apply Kd.R_drewN | apply Kd.R_drew)); exact Kd.R_mono HO318.out (fun _ hk => hk.2))); (case aS => exact (below_size (by repeat (first | (with_reducible first | exact HB.out | apply below_alloc | apply pw_below_drewN | apply below_drew1) | exact HB.out)))); (case aL => have := LMc30.out; omega); intro v324 w40 ho hb hg hat; rw [← Ny323.out] at ho; have n0_ := Aside0.mk (Kd.R_after (ok := (fun _ => True)) (by (with_reducible repeat (first | apply Kd.R_alloc | apply Kd.R_drewN | apply Kd.R_drew)); exact HO_3.out) hg hat); have n1_ := Aside0.mk (hb); have n2_ := Aside0.mk ((show Kd.C k45 w40 A39 y319.length y319 from by rw [Ny319.out, KA39.out]; exact Kd.C_drop (m := (x5_2 : Int).toNat) (c := co3) ((Kd.R_reads' (Kd.R_after (ok := (fun _ => True)) (by (with_reducible repeat (first | apply Kd.R_alloc | apply Kd.R_drewN | apply Kd.R_drew)); exact HO_3.out) hg hat)).2.2) KL39.out ((Kd.R_reads' (Kd.R_after (ok := (fun _ => True)) (by (with_reducible repeat (first | apply Kd.R_alloc | apply Kd.R_drewN | apply Kd.R_drew)); exact HO_3.out) hg hat)).2.1))); have n3_ := Aside0.mk (ho); clear HO_3; clear HB; clear HR322; clear HO318; have HO_3 := n0_; have HB := n1_; have HR322 := n2_; have HO325 := n3_; clear n0_ n1_ n2_ n3_; clear ho hb hg hat))
              have n0_ := Aside0.mk (Kd.R_drew HO_3.out)
              have n1_ := Aside0.mk (Kd.R_drew HO325.out)
              have n2_ := Aside0.mk (Kd.C_drew HR322.out)
              have n3_ := Aside0.mk (below_drew1 HB.out)
              clear HO_3
              clear HO325
              clear HR322
              clear HB
              have HO_3 := n0_
              have HO325 := n1_
              have HR322 := n2_
              have HB := n3_
              clear n0_ n1_ n2_ n3_
              have q42 : (x5_2 : Int) ≤ ((x3_1.length : Int) : Int) := of_decide_eq_true (by first | (with_reducible assumption) | assumption)
              obtain ⟨i042, hi042, _, hsz42, _⟩ := info_parts info45
              have hcut42 := cut_to (P := Tryz.prog) 23 45 .i64 Tryz.underlying23 hi042 Ao3 x3_1.length co3 x5_2 (of_decide_eq_true (by first | (with_reducible assumption) | assumption)) q42 (Kd.R_reads' HO_3.out).2.1
              have hr42 := Kd.R_take (m := (x5_2 : Int).toNat) HO_3.out (by omega)
              have hy42 : y326.length = (x5_2 : Int).toNat := (by rw [Ny326.out, List.length_take]; omega)
              rw [← Ny326.out] at hr42
              rw [← hy42] at hr42 hcut42
              clear hy42 hi042 hsz42 HO_3
              have HO328 := Aside0.mk hr42
              clear hr42
              replace q42 := eq_true q42
              have p329 : 0 ≤ (x4_1 : Int) := of_decide_eq_true (by first | (with_reducible assumption) | assumption)
              have q329 : x4_1 < (l0.length : Int) := of_decide_eq_true (by first | (with_reducible assumption) | assumption)
              obtain ⟨ad329, e329, hx329_0, hx329_1, hx329_2⟩ := at_T45 HR0.out x4_1 p329 q329
              have hw329_2 := hx329_2
              have hw329_1 := hx329_1
              have hw329_0 := hx329_0
              cases e329
              replace hx329_0 := (HB.out.cell (World.block_lt_of_cell? w _ hx329_0)).trans hx329_0
              replace hx329_1 := (HB.out.cell (World.block_lt_of_cell? w _ hx329_1)).trans hx329_1
              replace hx329_2 := (HB.out.cell (World.block_lt_of_cell? w _ hx329_2)).trans hx329_2
              replace p329 := eq_true p329
              replace q329 := eq_true q329
              refine start_ (n := 12) (S := fun w' => w'.cell? (ad329.add ((x4_1).toNat * 3)) = some (.string ((rd_T45 l0 x4_1).f0)) ∧ w'.cell? ⟨(ad329.add ((x4_1).toNat * 3)).block, (ad329.add ((x4_1).toNat * 3)).off + 1, none⟩ = some (.int .u64 ((rd_T45 l0 x4_1).f1.f0)) ∧ w'.cell? ⟨(ad329.add ((x4_1).toNat * 3)).block, (ad329.add ((x4_1).toNat * 3)).off + 2, none⟩ = some (.int .u64 ((rd_T45 l0 x4_1).f1.f1))) (ds := []) #[false, false, false, false, false, false, false, false, false, false, false, false] (by kernel_rfl) rfl rfl ⟨((HB.out.cell (World.block_lt_of_cell? w _ hw329_0)).trans hw329_0), ((HB.out.cell (World.block_lt_of_cell? w _ hw329_1)).trans hw329_1), ((HB.out.cell (World.block_lt_of_cell? w _ hw329_2)).trans hw329_2)⟩ (fun hHeld => ?_); refine with_tabW paymasterref10_Sort.tab9 paymasterref10_Sort.bits9 (fun HT_ HW_ => ?_)
              generalize w40.drew = w41 at HO_3 HO325 HR322 HB HO328 hx329_0 hx329_1 hx329_2 hHeld ⊢
              refine p_ 0 (some 38) HT_ ?_
              refine p_ 1 (some 39) HT_ ?_
              refine p_ 2 (some 40) HT_ ?_
              refine p_ 3 (some 41) HT_ ?_
              refine p_ 4 (some 42) HT_ ?_
              refine p_ 5 (some 43) HT_ ?_
              refine p_ 9 (some 47) HT_ ?_
              refine t_ 6 (some 44) HT_ HW_ hHeld ?_
              refine one_ (i := 7) (N := some 45) #[true, true, true, true, true, true, true, true, false, true, false, false] rfl rfl (one_of HT_.out (by kernel_rfl)) (by decide) (fun K hK => ?_)
              refine value_ (w1 := ?_) (v := ?_) (by rfl) rfl ?_ ?_
              rotate_left 2
              ·go_simp
               constructor
               ·rfl
               ·rfl
              refine hK.out _ _ ⟨(World.cell?_alloc_lt _ _ _ (World.block_lt_of_cell? _ _ (((HB.out.cell (World.block_lt_of_cell? w _ hw329_0)).trans hw329_0)))).trans (((HB.out.cell (World.block_lt_of_cell? w _ hw329_0)).trans hw329_0)), (World.cell?_alloc_lt _ _ _ (World.block_lt_of_cell? _ _ (((HB.out.cell (World.block_lt_of_cell? w _ hw329_1)).trans hw329_1)))).trans (((HB.out.cell (World.block_lt_of_cell? w _ hw329_1)).trans hw329_1)), (World.cell?_alloc_lt _ _ _ (World.block_lt_of_cell? _ _ (((HB.out.cell (World.block_lt_of_cell? w _ hw329_2)).trans hw329_2)))).trans (((HB.out.cell (World.block_lt_of_cell? w _ hw329_2)).trans hw329_2))⟩ (fun hHeld => ?_)
              clear hK K
              refine norm_ (a' := ?_) ?_ ?_
              rotate_left
              ·show Act.put _ (some 45) _ = _
               simp only [Act.put, List.setIfInBounds_toArray, List.set_cons_zero, List.set_cons_succ, i64_w, i32_w]
               rfl
              refine one_ (i := 8) (N := some 46) #[true, true, true, true, true, true, true, true, true, true, false, false] rfl rfl (one_of HT_.out (by kernel_rfl)) (by decide) (fun K hK => ?_)
              refine Kd.R_append_step k45 (w0 := w) w.heap.size (by rfl) (.tmp 40) (.tmp 45) 23 45 (.agg #[(.string ⟨#[]⟩), (.int .u64 0), (.int .u64 0)]) 32 rfl Tryz.underlying23 info45 rfl (by decide) (by omega) (.slice Ao3 y326.length co3) y326 (⟨(rd_T45 l0 x4_1).f0, (⟨(rd_T45 l0 x4_1).f1.f0, (rd_T45 l0 x4_1).f1.f1⟩ : S39)⟩ : S45) [.string ((rd_T45 l0 x4_1).f0), .int .u64 ((rd_T45 l0 x4_1).f1.f0), .int .u64 ((rd_T45 l0 x4_1).f1.f1)] (fun k_ => some k_ ≠ (v324 : Value).ownBlock) (fun _ => False) rfl rfl ?aP (fun _ hk => hk.elim) ?aF ?aO ?aB ?aS ?aL ?_
              (case aP => exact k45_mkM _ _ _ (⟨(rd_T45 l0 x4_1).f0, (⟨(rd_T45 l0 x4_1).f1.f0, (rd_T45 l0 x4_1).f1.f1⟩ : S39)⟩ : S45))
              (case aB => exact (by repeat (first | (with_reducible first | exact HB.out | apply below_alloc | apply pw_below_drewN | apply below_drew1) | exact HB.out)))
              (case aF => exact (fun k_ hk => Kd.fresh' (Kd.R_lt (by (with_reducible repeat (first | apply Kd.R_alloc | apply Kd.R_drewN | apply Kd.R_drew)); exact HO325.out)) k_ hk))
              (case aO => exact (by (with_reducible repeat (first | apply Kd.R_alloc | apply Kd.R_drewN | apply Kd.R_drew)); exact Kd.R_mono HO328.out (fun _ hk => hk.2)))
              (case aS => exact (below_size (by repeat (first | (with_reducible first | exact HB.out | apply below_alloc | apply pw_below_drewN | apply below_drew1) | exact HB.out))))
              (case aL => have := LMc34.out; omega)
              intro v331 w43 ho hb hg hat
              rw [← Ny330.out] at ho
              have n0_ := Aside0.mk (Kd.R_after (ok := (fun _ => True)) (by (with_reducible repeat (first | apply Kd.R_alloc | apply Kd.R_drewN | apply Kd.R_drew)); exact Kd.R_mono HO325.out (fun _ hk => ⟨trivial, by first | exact hk | exact fun e => hk (e.trans (own_len _ _ _ _ _))⟩)) hg hat)
              have n1_ := Aside0.mk (hb)
              have n2_ := Aside0.mk (ho)
              clear HO325
              clear HB
              clear HO328
              have HO325 := n0_
              have HB := n1_
              have HO332 := n2_
              clear n0_ n1_ n2_
              clear ho hb hg hat
              obtain ⟨Ao45, co45, eo45⟩ := Kd.R_slice HO325.out
              (first | subst eo45 | (injection eo45 with f1_ f2_ f3_; have f4_ := f1_.symm; have f5_ := f3_.symm; clear f1_ f2_ f3_; subst f4_; subst f5_))
              refine hK.out _ _ ⟨((HB.out.cell (World.block_lt_of_cell? w _ hw329_0)).trans hw329_0), ((HB.out.cell (World.block_lt_of_cell? w _ hw329_1)).trans hw329_1), ((HB.out.cell (World.block_lt_of_cell? w _ hw329_2)).trans hw329_2)⟩ (fun hHeld => ?_)
              clear hK K
              refine norm_ (a' := ?_) ?_ ?_
              rotate_left
              ·show Act.put _ (some 46) _ = _
               simp only [Act.put, List.setIfInBounds_toArray, List.set_cons_zero, List.set_cons_succ, i64_w, i32_w]
               rfl
              refine one_ (i := 10) (N := some 48) #[true, true, true, true, true, true, true, true, true, true, true, false] rfl rfl (one_of HT_.out (by kernel_rfl)) (by decide) (fun K hK => ?_)
              refine Kd.R_append_rows_step k45 (w0 := w) w.heap.size (by rfl) (.tmp 46) (.tmp 47) 23 45 (.agg #[(.string ⟨#[]⟩), (.int .u64 0), (.int .u64 0)]) 32 rfl Tryz.underlying23 info45 rfl (by decide) (by omega) v331 y330 y323 _ _ _ (fun k_ => some k_ ≠ (.slice Ao45 y323.length co45 : Value).ownBlock) (fun _ => False) rfl rfl ?aO ?aR (fun _ _ h => h) (fun _ h => h.elim) ?aF ?aB ?aS ?aL ?_
              (case aR => repeat (first | exact (Kd.R_reads' HO325.out).2.2 | (with_reducible refine Kd.C_alloc ?_ _) | (with_reducible refine Kd.C_drewN ?_ _) | (with_reducible refine Kd.C_drew ?_)))
              (case aB => exact (by repeat (first | (with_reducible first | exact HB.out | apply below_alloc | apply pw_below_drewN | apply below_drew1) | exact HB.out)))
              (case aF => exact (fun k_ hk => Kd.fresh' (Kd.R_lt (by (with_reducible repeat (first | apply Kd.R_alloc | apply Kd.R_drewN | apply Kd.R_drew)); exact HO325.out)) k_ hk))
              (case aO => exact (by (with_reducible repeat (first | apply Kd.R_alloc | apply Kd.R_drewN | apply Kd.R_drew)); exact HO332.out))
              (case aS => exact (below_size (by repeat (first | (with_reducible first | exact HB.out | apply below_alloc | apply pw_below_drewN | apply below_drew1) | exact HB.out))))
              (case aL => have := LMc35.out; omega)
              intro v334 w44 ho hb hg hat
              rw [← Ny333.out] at ho
              have n0_ := Aside0.mk (Kd.R_after (ok := (fun _ => True)) (by (with_reducible repeat (first | apply Kd.R_alloc | apply Kd.R_drewN | apply Kd.R_drew)); exact HO325.out) hg hat)
              have n1_ := Aside0.mk (hb)
              have n2_ := Aside0.mk (ho)
              clear HO325
              clear HB
              clear HO332
              have HO325 := n0_
              have HB := n1_
              have HO335 := n2_
              clear n0_ n1_ n2_
              clear ho hb hg hat
              refine hK.out _ _ ⟨((HB.out.cell (World.block_lt_of_cell? w _ hw329_0)).trans hw329_0), ((HB.out.cell (World.block_lt_of_cell? w _ hw329_1)).trans hw329_1), ((HB.out.cell (World.block_lt_of_cell? w _ hw329_2)).trans hw329_2)⟩ (fun hHeld => ?_)
              clear hK K
              refine norm_ (a' := ?_) ?_ ?_
              rotate_left
              ·show Act.put _ (some 48) _ = _
               simp only [Act.put, List.setIfInBounds_toArray, List.set_cons_zero, List.set_cons_succ, i64_w, i32_w]
               rfl
              refine p_ 11 (some 3) HT_ ?_
              refine done_ (done_of HT_.out (by kernel_rfl)) ?_
              try go_wp2
              go_roundg k2
              case measure => have := HK1.out; have := HK2.out; omega
              case rel => exact ⟨(y333), (wrap64 (x4_1 + 1)), (by first | rfl | (simp; done) | (simp [*]; done)), H', ⟨by have := HK1.out; have := HK2.out; omega⟩, ⟨by (with_reducible repeat (first | apply Kd.R_alloc | apply Kd.R_drewN | apply Kd.R_drew)); exact Kd.R_mono HO335.out (fun _ hk => trivial)⟩, ⟨by repeat (first | (with_reducible first | exact HB.out | apply below_alloc | apply pw_below_drewN | apply below_drew1) | exact HB.out)⟩⟩
             ·rw [if_neg c35] at H
              exact absurd H (by simp)
            ·rw [if_neg c34] at H
             exact absurd H (by simp)
           ·rw [if_neg c33] at H
            exact absurd H (by simp)
          ·rw [if_neg c32] at H
           exact absurd H (by simp)
         ·rw [if_neg c30] at H
          exact absurd H (by simp)
        ·rw [if_neg c29] at H
         exact absurd H (by simp)
       ·rw [if_neg c28] at H
        exact absurd H (by simp)
   ·rw [if_neg c2] at H
    have c2b0 : decide (x4_1 < (l0.length : Int)) = false := decide_eq_false c2
    clear c2
    obtain rfl := Option.some.inj H
    go_wp2
    go_ret
    exact ⟨_, by first | rfl | (simp [errW_none, errW_some] <;> rfl) | (simp [*, errW_none, errW_some] <;> rfl), by (with_reducible repeat (first | apply Kd.R_alloc | apply Kd.R_drewN | apply Kd.R_drew)); exact HO_3.out, by repeat (first | (with_reducible first | exact HB.out | apply below_alloc | apply pw_below_drewN | apply below_drew1) | exact HB.out)⟩

end Go.Proofs.YtfijhbfdkcajjaaGreatDoor.Pr

-- Written by wip/tools/myprint.py (a print of the translation, turned). Not trusted: Lean checks it.
namespace Go.Proofs.YtfijhbfdkcajjaaGreatDoor.Pr
open Go.RowKit Go.Proofs.YtfijhbfdkcajjaaGreatDoorW.PrintWords Go.Proofs.YtfijhbfdkcajjaaGreatDoorW.PrintLast Go.Proofs.YtfijhbfdkcajjaaGreatDoorW.PrintMore
attribute [local go_sem high] gtr_run
attribute [local go_sem] max2_int min2_int max_two min_two max_three min_three max_four min_four   -- for this text's walks alone
set_option linter.unusedVariables false
set_option linter.unusedSimpArgs false

/-! ### paymasterref12_Sort: function 42 -/
mutual
def paymasterref12_Sort.l0 : Nat → List (S41) → List (S41) → Int → Option ((List (S41)))
 | 0, _, _, _ => none
 | k + 1, x0, x3, x4 => if x4 < (x0.length : Int) then (paymasterref12_Sort.l1 k x0 x3 x4 (x3.length : Int)) else (some x3)
def paymasterref12_Sort.l1 : Nat → List (S41) → List (S41) → Int → Int → Option ((List (S41)))
 | 0, _, _, _, _ => none
 | k + 1, x0, x3, x4, x5 => if x5 > 0 then (if 0 ≤ (wrap64 (x5 - 1)) then (if (wrap64 (x5 - 1)) < (x3.length : Int) then (if 0 ≤ x4 then (if x4 < (x0.length : Int) then (if (Op.bytesLess (((rd_T41 x0 x4).f0).toList) (((rd_T41 x3 (wrap64 (x5 - 1))).f0).toList)) = true then (paymasterref12_Sort.l1 k x0 x3 x4 (wrap64 (x5 - 1))) else ((some (([] : List (S41)) : List (S41))).bind fun y383 => (if 0 ≤ x5 then (if x5 ≤ (x3.length : Int) then ((some (x3.drop (x5 : Int).toNat : List (S41))).bind fun y386 => (if y383.length + y386.length < 2513169434916 then ((some (y383 ++ y386 : List (S41))).bind fun y390 => ((some (x3.take (x5 : Int).toNat : List (S41))).bind fun y393 => (if y393.length < 2513169434916 then ((some (y393 ++ [(⟨(rd_T41 x0 x4).f0, (⟨(rd_T41 x0 x4).f1.f0, (rd_T41 x0 x4).f1.f1⟩ : S39), (rd_T41 x0 x4).f2, (rd_T41 x0 x4).f3⟩ : S41)] : List (S41))).bind fun y397 => (if y397.length + y390.length < 2513169434916 then (paymasterref12_Sort.l0 k x0 (y397 ++ y390) (wrap64 (x4 + 1))) else (none))) else (none)))) else (none))) else (none)) else (none)))) else (none)) else (none)) else (none)) else (none)) else ((some (([] : List (S41)) : List (S41))).bind fun y403 => (if 0 ≤ x5 then (if x5 ≤ (x3.length : Int) then ((some (x3.drop (x5 : Int).toNat : List (S41))).bind fun y406 => (if y403.length + y406.length < 2513169434916 then ((some (y403 ++ y406 : List (S41))).bind fun y410 => ((some (x3.take (x5 : Int).toNat : List (S41))).bind fun y413 => (if 0 ≤ x4 then (if x4 < (x0.length : Int) then (if y413.length < 2513169434916 then ((some (y413 ++ [(⟨(rd_T41 x0 x4).f0, (⟨(rd_T41 x0 x4).f1.f0, (rd_T41 x0 x4).f1.f1⟩ : S39), (rd_T41 x0 x4).f2, (rd_T41 x0 x4).f3⟩ : S41)] : List (S41))).bind fun y417 => (if y417.length + y410.length < 2513169434916 then (paymasterref12_Sort.l0 k x0 (y417 ++ y410) (wrap64 (x4 + 1))) else (none))) else (none)) else (none)) else (none)))) else (none))) else (none)) else (none)))
end
def paymasterref12_Sort.f (k : Nat) (l0 : List (S41)) : Option ((List (S41))) := paymasterref12_Sort.l0 k l0 ([] : List (S41)) 0
def paymasterref12_Sort.T6 : Bool × List (List Nat × List Nat) := (true, [([], []), ([0], [0]), ([1], [1]), ([2], [2]), ([2], [2]), ([4, 2], [2, 4]), ([3, 5, 2], [2, 3, 5]), ([6, 2], [2, 6]), ([7, 2], [2, 7]), ([2], [2]), ([2], [2]), ([9, 10, 2], [2, 9, 10]), ([11, 2], [2, 11]), ([12, 2], [2, 12]), ([8, 13, 2], [2, 8, 13]), ([2, 14], [2, 14])])
def paymasterref12_Sort.B6 : List Nat := [0, 1, 3, 7, 7, 23, 63, 127, 255, 7, 7, 1543, 3591, 7687, 16383, 32767]
theorem paymasterref12_Sort.tab6 : rtab .any (opsOf Tryz.f42 6) = paymasterref12_Sort.T6 := by kernel_rfl
theorem paymasterref12_Sort.bits6 : waitsOk paymasterref12_Sort.T6.2 paymasterref12_Sort.B6 = true := by kernel_rfl
def paymasterref12_Sort.T9 : Bool × List (List Nat × List Nat) := (true, [([], []), ([], []), ([0, 1], [0, 1]), ([], []), ([], []), ([3, 4], [3, 4]), ([5], [5]), ([6], [6]), ([2, 7], [2, 7]), ([], []), ([8, 9, 8], [8, 9]), ([10, 10, 0, 1, 2, 3, 4, 5, 6, 7, 8, 9, 10], [0, 10])])
def paymasterref12_Sort.B9 : List Nat := [0, 0, 3, 0, 0, 24, 56, 120, 255, 0, 1023, 2047]
theorem paymasterref12_Sort.tab9 : rtab .any (opsOf Tryz.f42 9) = paymasterref12_Sort.T9 := by kernel_rfl
theorem paymasterref12_Sort.bits9 : waitsOk paymasterref12_Sort.T9.2 paymasterref12_Sort.B9 = true := by kernel_rfl
set_option maxHeartbeats 8000000 in
set_option maxRecDepth 100000 in
theorem paymasterref12_Sort.calls (k : Nat) (A0 : Option Addr) (c0 : Nat) (l0 : List (S41)) (r : List (S41)) (w : World) (hr0 : Kd.C k41 w A0 l0.length l0) (hc0 : l0.length ≤ c0) (h : paymasterref12_Sort.f k l0 = some r) :
 Calls Tryz.prog 42 #[.slice A0 l0.length c0] w fun e w' => ∃ v0_ : Value, e = .returned (v0_) ∧ Kd.R k41 41 w' w.heap.size (fun _ => True) v0_ r ∧ Below w.heap.size w w' := by
 have hu41 := Tryz.underlying41
 have HR0 := Aside0.mk hr0
 have HC0 := Aside0.mk hc0
 clear hr0 hc0
 have HB := Aside0.mk (Below.refl w.heap.size w)
 have H : (paymasterref12_Sort.l0 k l0 ([] : List (S41)) 0) = some r := h
 clear h
 have H' := Aside0.mk H
 clear H
 go_enter Tryz.func42, Tryz.ntmps42
 go_wp2
 go_loopg [3, 4] k (fun kq v3 v4 w' => ∃ (x3_1 : List (S41)) (x4_1 : Int), v4 = .int .i64 x4_1 ∧ Aside0 (paymasterref12_Sort.l0 kq l0 x3_1 x4_1 = some r) ∧ Aside0 (kq ≤ k) ∧ Aside0 (Kd.R k41 41 w' w.heap.size (fun _ => True) v3 x3_1) ∧ Aside0 (Below w.heap.size w w'))
 case atStart => exact ⟨(([] : List (S41))), (0), (by first | rfl | (simp; done) | (simp [*]; done)), H', ⟨Nat.le_refl _⟩, ⟨by first | exact Kd.R_nil _ _ _ _ _ | exact Kd.N_nil _ _ _ _ _ | exact Kd.V_nil _ _ _ _ _ | exact Kd.Q_nil _ _ _ _ _ | exact Kd.S_nil _ _ _ _ _⟩, ⟨by repeat (first | (with_reducible first | exact HB.out | apply below_alloc | apply pw_below_drewN | apply below_drew1) | exact HB.out)⟩⟩
 case round =>
  clear H'
  obtain ⟨x3_1, x4_1, rfl, HA, HK1, HO_3, HB⟩ := hrel
  cases gk with
  | zero => exact absurd HA.out (by simp [paymasterref12_Sort.l0])
  | succ k1 =>
   have H := HA.out
   clear HA
   simp only [paymasterref12_Sort.l0] at H
   by_cases c2 : x4_1 < (l0.length : Int)
   ·rw [if_pos c2] at H
    have c2b0 : decide (x4_1 < (l0.length : Int)) = true := decide_eq_true c2
    clear c2
    have H' := Aside0.mk H
    clear H
    obtain ⟨Ao3, co3, eo3⟩ := Kd.R_slice HO_3.out
    subst eo3
    go_wp2
    go_loopg [5] k1 (fun kq v5 w' => ∃ (x5_2 : Int), v5 = .int .i64 x5_2 ∧ Aside0 (paymasterref12_Sort.l1 kq l0 x3_1 x4_1 x5_2 = some r) ∧ Aside0 (kq ≤ k1) ∧ Aside0 (Kd.R k41 41 w' w.heap.size (fun _ => True) (.slice Ao3 x3_1.length co3) x3_1) ∧ Aside0 (Below w.heap.size w w'))
    case atStart => exact ⟨((x3_1.length : Int)), (by first | rfl | (simp; done) | (simp [*]; done)), H', ⟨Nat.le_refl _⟩, ⟨by (with_reducible repeat (first | apply Kd.R_alloc | apply Kd.R_drewN | apply Kd.R_drew)); exact HO_3.out⟩, ⟨by repeat (first | (with_reducible first | exact HB.out | apply below_alloc | apply pw_below_drewN | apply below_drew1) | exact HB.out)⟩⟩
    case round =>
     clear H'
     try clear c2
     try clear c2b0
     try clear p2
     obtain ⟨x5_2, rfl, HA, HK2, HO_3, HB⟩ := hrel
     cases gk with
     | zero => exact absurd HA.out (by simp [paymasterref12_Sort.l1])
     | succ k2 =>
      have H := HA.out
      clear HA
      simp only [paymasterref12_Sort.l1] at H
      by_cases c4 : x5_2 > 0
      ·rw [if_pos c4] at H
       have c4b0 : decide (0 < x5_2) = true := decide_eq_true c4
       clear c4
       obtain ⟨ji5, hji5⟩ : ∃ j_ : Int, (wrap64 (x5_2 - 1)) = j_ := ⟨_, rfl⟩
       replace H : (if 0 ≤ (ji5) then (if (ji5) < (x3_1.length : Int) then (if 0 ≤ x4_1 then (if x4_1 < (l0.length : Int) then (if (Op.bytesLess (((rd_T41 l0 x4_1).f0).toList) (((rd_T41 x3_1 (ji5)).f0).toList)) = true then (paymasterref12_Sort.l1 k2 l0 x3_1 x4_1 ji5) else ((some (([] : List (S41)) : List (S41))).bind fun y383 => (if 0 ≤ x5_2 then (if x5_2 ≤ (x3_1.length : Int) then ((some (x3_1.drop (x5_2 : Int).toNat : List (S41))).bind fun y386 => (if y383.length + y386.length < 2513169434916 then ((some (y383 ++ y386 : List (S41))).bind fun y390 => ((some (x3_1.take (x5_2 : Int).toNat : List (S41))).bind fun y393 => (if y393.length < 2513169434916 then ((some (y393 ++ [(⟨(rd_T41 l0 x4_1).f0, (⟨(rd_T41 l0 x4_1).f1.f0, (rd_T41 l0 x4_1).f1.f1⟩ : S39), (rd_T41 l0 x4_1).f2, (rd_T41 l0 x4_1).f3⟩ : S41)] : List (S41))).bind fun y397 => (if y397.length + y390.length < 2513169434916 then (paymasterref12_Sort.l0 k2 l0 (y397 ++ y390) (wrap64 (x4_1 + 1))) else (none))) else (none)))) else (none))) else (none)) else (none)))) else (none)) else (none)) else (none)) else (none)) = some r := by first | (rw [hji5] at H; exact H) | (simp only [hji5] at H ⊢; exact H)
       have hji5w : (IntKind.i64.wrap (x5_2 - 1)) = ji5 := (i64_w _).trans hji5
       by_cases c6 : 0 ≤ (ji5)
       ·rw [if_pos c6] at H
        have c6b0 : decide (0 ≤ (ji5)) = true := decide_eq_true c6
        clear c6
        by_cases c7 : (ji5) < (x3_1.length : Int)
        ·rw [if_pos c7] at H
         have c7b0 : decide ((ji5) < (x3_1.length : Int)) = true := decide_eq_true c7
         clear c7
         by_cases c8 : 0 ≤ x4_1
         ·rw [if_pos c8] at H
          have c8b0 : decide (0 ≤ x4_1) = true := decide_eq_true c8
          clear c8
          by_cases c9 : x4_1 < (l0.length : Int)
          ·rw [if_pos c9] at H
           have c9b0 : decide (x4_1 < (l0.length : Int)) = true := decide_eq_true c9
           clear c9
           by_cases c10 : (Op.bytesLess (((rd_T41 l0 x4_1).f0).toList) (((rd_T41 x3_1 (ji5)).f0).toList)) = true
           ·rw [if_pos c10] at H
            have c10b0 : (Op.bytesLess (((rd_T41 l0 x4_1).f0).toList) (((rd_T41 x3_1 (ji5)).f0).toList)) = true := c10
            clear c10
            have H' := Aside0.mk H
            clear H
            try go_wp2
            have n0_ := Aside0.mk (Kd.R_drew HO_3.out)
            have n1_ := Aside0.mk (below_drew1 HB.out)
            clear HO_3
            clear HB
            have HO_3 := n0_
            have HB := n1_
            clear n0_ n1_
            have p381 : 0 ≤ ((ji5) : Int) := of_decide_eq_true (by first | (with_reducible assumption) | assumption)
            have q381 : (ji5) < (x3_1.length : Int) := of_decide_eq_true (by first | (with_reducible assumption) | assumption)
            obtain ⟨ad381, e381, hx381_0, hx381_1, hx381_2, hx381_3, hx381_4⟩ := at_T41 (Kd.R_reads' HO_3.out).2.2 (ji5) p381 q381
            cases e381
            replace p381 := eq_true p381
            replace q381 := eq_true q381
            have p382 : 0 ≤ (x4_1 : Int) := of_decide_eq_true (by first | (with_reducible assumption) | assumption)
            have q382 : x4_1 < (l0.length : Int) := of_decide_eq_true (by first | (with_reducible assumption) | assumption)
            obtain ⟨ad382, e382, hx382_0, hx382_1, hx382_2, hx382_3, hx382_4⟩ := at_T41 HR0.out x4_1 p382 q382
            have hw382_4 := hx382_4
            have hw382_3 := hx382_3
            have hw382_2 := hx382_2
            have hw382_1 := hx382_1
            have hw382_0 := hx382_0
            cases e382
            replace hx382_0 := (HB.out.cell (World.block_lt_of_cell? w _ hx382_0)).trans hx382_0
            replace hx382_1 := (HB.out.cell (World.block_lt_of_cell? w _ hx382_1)).trans hx382_1
            replace hx382_2 := (HB.out.cell (World.block_lt_of_cell? w _ hx382_2)).trans hx382_2
            replace hx382_3 := (HB.out.cell (World.block_lt_of_cell? w _ hx382_3)).trans hx382_3
            replace hx382_4 := (HB.out.cell (World.block_lt_of_cell? w _ hx382_4)).trans hx382_4
            replace p382 := eq_true p382
            replace q382 := eq_true q382
            refine start_ (n := 16) (S := fun w' => w'.cell? (ad381.add (((ji5)).toNat * 5)) = some (.string ((rd_T41 x3_1 (ji5)).f0)) ∧ w'.cell? ⟨(ad381.add (((ji5)).toNat * 5)).block, (ad381.add (((ji5)).toNat * 5)).off + 1, none⟩ = some (.int .u64 ((rd_T41 x3_1 (ji5)).f1.f0)) ∧ w'.cell? ⟨(ad381.add (((ji5)).toNat * 5)).block, (ad381.add (((ji5)).toNat * 5)).off + 2, none⟩ = some (.int .u64 ((rd_T41 x3_1 (ji5)).f1.f1)) ∧ w'.cell? ⟨(ad381.add (((ji5)).toNat * 5)).block, (ad381.add (((ji5)).toNat * 5)).off + 3, none⟩ = some (.string ((rd_T41 x3_1 (ji5)).f2)) ∧ w'.cell? ⟨(ad381.add (((ji5)).toNat * 5)).block, (ad381.add (((ji5)).toNat * 5)).off + 4, none⟩ = some (.int .u64 ((rd_T41 x3_1 (ji5)).f3)) ∧ w'.cell? (ad382.add ((x4_1).toNat * 5)) = some (.string ((rd_T41 l0 x4_1).f0)) ∧ w'.cell? ⟨(ad382.add ((x4_1).toNat * 5)).block, (ad382.add ((x4_1).toNat * 5)).off + 1, none⟩ = some (.int .u64 ((rd_T41 l0 x4_1).f1.f0)) ∧ w'.cell? ⟨(ad382.add ((x4_1).toNat * 5)).block, (ad382.add ((x4_1).toNat * 5)).off + 2, none⟩ = some (.int .u64 ((rd_T41 l0 x4_1).f1.f1)) ∧ w'.cell? ⟨(ad382.add ((x4_1).toNat * 5)).block, (ad382.add ((x4_1).toNat * 5)).off + 3, none⟩ = some (.string ((rd_T41 l0 x4_1).f2)) ∧ w'.cell? ⟨(ad382.add ((x4_1).toNat * 5)).block, (ad382.add ((x4_1).toNat * 5)).off + 4, none⟩ = some (.int .u64 ((rd_T41 l0 x4_1).f3))) (ds := []) #[false, false, false, false, false, false, false, false, false, false, false, false, false, false, false, false] (by kernel_rfl) rfl rfl ⟨hx381_0, hx381_1, hx381_2, hx381_3, hx381_4, ((HB.out.cell (World.block_lt_of_cell? w _ hw382_0)).trans hw382_0), ((HB.out.cell (World.block_lt_of_cell? w _ hw382_1)).trans hw382_1), ((HB.out.cell (World.block_lt_of_cell? w _ hw382_2)).trans hw382_2), ((HB.out.cell (World.block_lt_of_cell? w _ hw382_3)).trans hw382_3), ((HB.out.cell (World.block_lt_of_cell? w _ hw382_4)).trans hw382_4)⟩ (fun hHeld => ?_); refine with_tabW paymasterref12_Sort.tab6 paymasterref12_Sort.bits6 (fun HT_ HW_ => ?_)
            generalize wr.drew = w11 at HO_3 HB hx381_0 hx381_1 hx381_2 hx381_3 hx381_4 hx382_0 hx382_1 hx382_2 hx382_3 hx382_4 hHeld ⊢
            refine p_ 0 (some 15) HT_ ?_
            refine p_ 1 (some 16) HT_ ?_
            refine p_ 2 (some 17) HT_ ?_
            refine p_ 3 (some 18) HT_ ?_
            refine p_ 4 (some 19) HT_ ?_
            refine p_ 5 (some 20) HT_ ?_
            refine p_ 6 (some 21) HT_ ?_
            refine p_ 7 (some 22) HT_ ?_
            refine p_ 9 (some 24) HT_ ?_
            refine p_ 10 (some 25) HT_ ?_
            refine p_ 11 (some 26) HT_ ?_
            refine p_ 12 (some 27) HT_ ?_
            refine t_ 8 (some 23) HT_ HW_ hHeld ?_
            refine t_ 13 (some 28) HT_ HW_ hHeld ?_
            refine p_ 14 (some 29) HT_ ?_
            refine p_ 15 (some 30) HT_ ?_
            refine done_ (done_of HT_.out (by kernel_rfl)) ?_
            try go_wp2
            go_roundg k2
            case measure => have := HK1.out; have := HK2.out; omega
            case rel => exact ⟨(ji5), (by first | rfl | (simp; done) | (simp only [← hji5] <;> (first | rfl | simp)) | (simp [*]; done)), H', ⟨by have := HK1.out; have := HK2.out; omega⟩, ⟨by (with_reducible repeat (first | apply Kd.R_alloc | apply Kd.R_drewN | apply Kd.R_drew)); exact HO_3.out⟩, ⟨by repeat (first | (with_reducible first | exact HB.out | apply below_alloc | apply pw_below_drewN | apply below_drew1) | exact HB.out)⟩⟩
           ·rw [if_neg c10] at H
            have c10b0 : (Op.bytesLess (((rd_T41 l0 x4_1).f0).toList) (((rd_T41 x3_1 (ji5)).f0).toList)) = false := by simpa using c10
            clear c10
            obtain ⟨y383, hy383⟩ : ∃ y_ : List (S41), y_ = (([] : List (S41))) := ⟨_, rfl⟩
            replace H : (if 0 ≤ x5_2 then (if x5_2 ≤ (x3_1.length : Int) then ((some (x3_1.drop (x5_2 : Int).toNat : List (S41))).bind fun y386 => (if y383.length + y386.length < 2513169434916 then ((some (y383 ++ y386 : List (S41))).bind fun y390 => ((some (x3_1.take (x5_2 : Int).toNat : List (S41))).bind fun y393 => (if y393.length < 2513169434916 then ((some (y393 ++ [(⟨(rd_T41 l0 x4_1).f0, (⟨(rd_T41 l0 x4_1).f1.f0, (rd_T41 l0 x4_1).f1.f1⟩ : S39), (rd_T41 l0 x4_1).f2, (rd_T41 l0 x4_1).f3⟩ : S41)] : List (S41))).bind fun y397 => (if y397.length + y390.length < 2513169434916 then (paymasterref12_Sort.l0 k2 l0 (y397 ++ y390) (wrap64 (x4_1 + 1))) else (none))) else (none)))) else (none))) else (none)) else (none)) = some r := by first | (rw [hy383]; with_reducible exact H) | (have H2_ := (Option.bind_some _ _).symm.trans H; rw [hy383]; with_reducible exact H2_) | (have H2_ := (Option.bind_some _ _).symm.trans H; with_reducible exact H2_) | with_reducible exact H | (rw [hy383]; exact H) | exact H
            have Ny383 := Aside0.mk hy383
            clear hy383
            by_cases c12 : 0 ≤ x5_2
            ·rw [if_pos c12] at H
             have c12b0 := eq_true c12
             have c12b1 : decide (0 ≤ x5_2) = true := decide_eq_true c12
             clear c12
             by_cases c13 : x5_2 ≤ (x3_1.length : Int)
             ·rw [if_pos c13] at H
              have c13b0 := eq_true c13
              have c13b1 : decide (x5_2 ≤ (x3_1.length : Int)) = true := decide_eq_true c13
              clear c13
              obtain ⟨y386, hy386⟩ : ∃ y_ : List (S41), y_ = (x3_1.drop (x5_2 : Int).toNat) := ⟨_, rfl⟩
              replace H : (if y383.length + y386.length < 2513169434916 then ((some (y383 ++ y386 : List (S41))).bind fun y390 => ((some (x3_1.take (x5_2 : Int).toNat : List (S41))).bind fun y393 => (if y393.length < 2513169434916 then ((some (y393 ++ [(⟨(rd_T41 l0 x4_1).f0, (⟨(rd_T41 l0 x4_1).f1.f0, (rd_T41 l0 x4_1).f1.f1⟩ : S39), (rd_T41 l0 x4_1).f2, (rd_T41 l0 x4_1).f3⟩ : S41)] : List (S41))).bind fun y397 => (if y397.length + y390.length < 2513169434916 then (paymasterref12_Sort.l0 k2 l0 (y397 ++ y390) (wrap64 (x4_1 + 1))) else (none))) else (none)))) else (none)) = some r := by first | (rw [hy386]; with_reducible exact H) | (have H2_ := (Option.bind_some _ _).symm.trans H; rw [hy386]; with_reducible exact H2_) | (have H2_ := (Option.bind_some _ _).symm.trans H; with_reducible exact H2_) | with_reducible exact H | (rw [hy386]; exact H) | exact H
              have Ny386 := Aside0.mk hy386
              clear hy386
              by_cases c14 : y383.length + y386.length < 2513169434916
              ·rw [if_pos c14] at H
               have LMc14 := Aside0.mk c14
               clear c14
               obtain ⟨y390, hy390⟩ : ∃ y_ : List (S41), y_ = (y383 ++ y386) := ⟨_, rfl⟩
               replace H : ((some (x3_1.take (x5_2 : Int).toNat : List (S41))).bind fun y393 => (if y393.length < 2513169434916 then ((some (y393 ++ [(⟨(rd_T41 l0 x4_1).f0, (⟨(rd_T41 l0 x4_1).f1.f0, (rd_T41 l0 x4_1).f1.f1⟩ : S39), (rd_T41 l0 x4_1).f2, (rd_T41 l0 x4_1).f3⟩ : S41)] : List (S41))).bind fun y397 => (if y397.length + y390.length < 2513169434916 then (paymasterref12_Sort.l0 k2 l0 (y397 ++ y390) (wrap64 (x4_1 + 1))) else (none))) else (none))) = some r := by first | (rw [hy390]; with_reducible exact H) | (have H2_ := (Option.bind_some _ _).symm.trans H; rw [hy390]; with_reducible exact H2_) | (have H2_ := (Option.bind_some _ _).symm.trans H; with_reducible exact H2_) | with_reducible exact H | (rw [hy390]; exact H) | exact H
               have Ny390 := Aside0.mk hy390
               clear hy390
               have c15b0 := eq_true (of_decide_eq_true (by first | (with_reducible assumption) | assumption) : x5_2 ≤ (x3_1.length : Int))
               obtain ⟨y393, hy393⟩ : ∃ y_ : List (S41), y_ = (x3_1.take (x5_2 : Int).toNat) := ⟨_, rfl⟩
               replace H : (if y393.length < 2513169434916 then ((some (y393 ++ [(⟨(rd_T41 l0 x4_1).f0, (⟨(rd_T41 l0 x4_1).f1.f0, (rd_T41 l0 x4_1).f1.f1⟩ : S39), (rd_T41 l0 x4_1).f2, (rd_T41 l0 x4_1).f3⟩ : S41)] : List (S41))).bind fun y397 => (if y397.length + y390.length < 2513169434916 then (paymasterref12_Sort.l0 k2 l0 (y397 ++ y390) (wrap64 (x4_1 + 1))) else (none))) else (none)) = some r := by first | (rw [hy393]; with_reducible exact H) | (have H2_ := (Option.bind_some _ _).symm.trans H; rw [hy393]; with_reducible exact H2_) | (have H2_ := (Option.bind_some _ _).symm.trans H; with_reducible exact H2_) | with_reducible exact H | (rw [hy393]; exact H) | exact H
               have Ny393 := Aside0.mk hy393
               clear hy393
               by_cases c16 : y393.length < 2513169434916
               ·rw [if_pos c16] at H
                have LMc16 := Aside0.mk c16
                clear c16
                obtain ⟨y397, hy397⟩ : ∃ y_ : List (S41), y_ = (y393 ++ [(⟨(rd_T41 l0 x4_1).f0, (⟨(rd_T41 l0 x4_1).f1.f0, (rd_T41 l0 x4_1).f1.f1⟩ : S39), (rd_T41 l0 x4_1).f2, (rd_T41 l0 x4_1).f3⟩ : S41)]) := ⟨_, rfl⟩
                replace H : (if y397.length + y390.length < 2513169434916 then (paymasterref12_Sort.l0 k2 l0 (y397 ++ y390) (wrap64 (x4_1 + 1))) else (none)) = some r := by first | (rw [hy397]; with_reducible exact H) | (have H2_ := (Option.bind_some _ _).symm.trans H; rw [hy397]; with_reducible exact H2_) | (have H2_ := (Option.bind_some _ _).symm.trans H; with_reducible exact H2_) | with_reducible exact H | (rw [hy397]; exact H) | exact H
                have Ny397 := Aside0.mk hy397
                clear hy397
                by_cases c17 : y397.length + y390.length < 2513169434916
                ·rw [if_pos c17] at H
                 have LMc17 := Aside0.mk c17
                 clear c17
                 obtain ⟨y400, hy400⟩ : ∃ y_ : List (S41), y_ = (y397 ++ y390) := ⟨_, rfl⟩
                 replace H : (paymasterref12_Sort.l0 k2 l0 y400 (wrap64 (x4_1 + 1))) = some r := by first | (rw [hy400]; with_reducible exact H) | (have H2_ := (Option.bind_some _ _).symm.trans H; rw [hy400]; with_reducible exact H2_) | (have H2_ := (Option.bind_some _ _).symm.trans H; with_reducible exact H2_) | with_reducible exact H | (rw [hy400]; exact H) | exact H
                 have Ny400 := Aside0.mk hy400
                 clear hy400
                 have H' := Aside0.mk H
                 clear H
                 try go_wp2
                 have n0_ := Aside0.mk (Kd.R_drew HO_3.out)
                 have n1_ := Aside0.mk (below_drew1 HB.out)
                 clear HO_3
                 clear HB
                 have HO_3 := n0_
                 have HB := n1_
                 clear n0_ n1_
                 have p381 : 0 ≤ ((ji5) : Int) := of_decide_eq_true (by first | (with_reducible assumption) | assumption)
                 have q381 : (ji5) < (x3_1.length : Int) := of_decide_eq_true (by first | (with_reducible assumption) | assumption)
                 obtain ⟨ad381, e381, hx381_0, hx381_1, hx381_2, hx381_3, hx381_4⟩ := at_T41 (Kd.R_reads' HO_3.out).2.2 (ji5) p381 q381
                 cases e381
                 replace p381 := eq_true p381
                 replace q381 := eq_true q381
                 have p382 : 0 ≤ (x4_1 : Int) := of_decide_eq_true (by first | (with_reducible assumption) | assumption)
                 have q382 : x4_1 < (l0.length : Int) := of_decide_eq_true (by first | (with_reducible assumption) | assumption)
                 obtain ⟨ad382, e382, hx382_0, hx382_1, hx382_2, hx382_3, hx382_4⟩ := at_T41 HR0.out x4_1 p382 q382
                 have hw382_4 := hx382_4
                 have hw382_3 := hx382_3
                 have hw382_2 := hx382_2
                 have hw382_1 := hx382_1
                 have hw382_0 := hx382_0
                 cases e382
                 replace hx382_0 := (HB.out.cell (World.block_lt_of_cell? w _ hx382_0)).trans hx382_0
                 replace hx382_1 := (HB.out.cell (World.block_lt_of_cell? w _ hx382_1)).trans hx382_1
                 replace hx382_2 := (HB.out.cell (World.block_lt_of_cell? w _ hx382_2)).trans hx382_2
                 replace hx382_3 := (HB.out.cell (World.block_lt_of_cell? w _ hx382_3)).trans hx382_3
                 replace hx382_4 := (HB.out.cell (World.block_lt_of_cell? w _ hx382_4)).trans hx382_4
                 replace p382 := eq_true p382
                 replace q382 := eq_true q382
                 refine start_ (n := 16) (S := fun w' => w'.cell? (ad381.add (((ji5)).toNat * 5)) = some (.string ((rd_T41 x3_1 (ji5)).f0)) ∧ w'.cell? ⟨(ad381.add (((ji5)).toNat * 5)).block, (ad381.add (((ji5)).toNat * 5)).off + 1, none⟩ = some (.int .u64 ((rd_T41 x3_1 (ji5)).f1.f0)) ∧ w'.cell? ⟨(ad381.add (((ji5)).toNat * 5)).block, (ad381.add (((ji5)).toNat * 5)).off + 2, none⟩ = some (.int .u64 ((rd_T41 x3_1 (ji5)).f1.f1)) ∧ w'.cell? ⟨(ad381.add (((ji5)).toNat * 5)).block, (ad381.add (((ji5)).toNat * 5)).off + 3, none⟩ = some (.string ((rd_T41 x3_1 (ji5)).f2)) ∧ w'.cell? ⟨(ad381.add (((ji5)).toNat * 5)).block, (ad381.add (((ji5)).toNat * 5)).off + 4, none⟩ = some (.int .u64 ((rd_T41 x3_1 (ji5)).f3)) ∧ w'.cell? (ad382.add ((x4_1).toNat * 5)) = some (.string ((rd_T41 l0 x4_1).f0)) ∧ w'.cell? ⟨(ad382.add ((x4_1).toNat * 5)).block, (ad382.add ((x4_1).toNat * 5)).off + 1, none⟩ = some (.int .u64 ((rd_T41 l0 x4_1).f1.f0)) ∧ w'.cell? ⟨(ad382.add ((x4_1).toNat * 5)).block, (ad382.add ((x4_1).toNat * 5)).off + 2, none⟩ = some (.int .u64 ((rd_T41 l0 x4_1).f1.f1)) ∧ w'.cell? ⟨(ad382.add ((x4_1).toNat * 5)).block, (ad382.add ((x4_1).toNat * 5)).off + 3, none⟩ = some (.string ((rd_T41 l0 x4_1).f2)) ∧ w'.cell? ⟨(ad382.add ((x4_1).toNat * 5)).block, (ad382.add ((x4_1).toNat * 5)).off + 4, none⟩ = some (.int .u64 ((rd_T41 l0 x4_1).f3))) (ds := []) #[false, false, false, false, false, false, false, false, false, false, false, false, false, false, false, false] (by kernel_rfl) rfl rfl ⟨hx381_0, hx381_1, hx381_2, hx381_3, hx381_4, ((HB.out.cell (World.block_lt_of_cell? w _ hw382_0)).trans hw382_0), ((HB.out.cell (World.block_lt_of_cell? w _ hw382_1)).trans hw382_1), ((HB.out.cell (World.block_lt_of_cell? w _ hw382_2)).trans hw382_2), ((HB.out.cell (World.block_lt_of_cell? w _ hw382_3)).trans hw382_3), ((HB.out.cell (World.block_lt_of_cell? w _ hw382_4)).trans hw382_4)⟩ (fun hHeld => ?_); refine with_tabW paymasterref12_Sort.tab6 paymasterref12_Sort.bits6 (fun HT_ HW_ => ?_)
                 generalize wr.drew = w18 at HO_3 HB hx381_0 hx381_1 hx381_2 hx381_3 hx381_4 hx382_0 hx382_1 hx382_2 hx382_3 hx382_4 hHeld ⊢
                 refine p_ 0 (some 15) HT_ ?_
                 refine p_ 1 (some 16) HT_ ?_
                 refine p_ 2 (some 17) HT_ ?_
                 refine p_ 3 (some 18) HT_ ?_
                 refine p_ 4 (some 19) HT_ ?_
                 refine p_ 5 (some 20) HT_ ?_
                 refine p_ 6 (some 21) HT_ ?_
                 refine p_ 7 (some 22) HT_ ?_
                 refine p_ 9 (some 24) HT_ ?_
                 refine p_ 10 (some 25) HT_ ?_
                 refine p_ 11 (some 26) HT_ ?_
                 refine p_ 12 (some 27) HT_ ?_
                 refine t_ 8 (some 23) HT_ HW_ hHeld ?_
                 refine t_ 13 (some 28) HT_ HW_ hHeld ?_
                 refine p_ 14 (some 29) HT_ ?_
                 refine p_ 15 (some 30) HT_ ?_
                 refine done_ (done_of HT_.out (by kernel_rfl)) ?_
                 try go_wp2_with (first | ((with_reducible refine gate_dst (N := 33) rfl ?_); refine Kd.R_lit k41 _ 41 ?hg (N := 33) ?hd (xs := ([] : List (S41))) (inner := []) (ok := fun _ => True) (okp := fun _ => True) ?hr ?hp (fun _ hk => hk) trivial (Below.refl _ _) (Nat.le_refl _) (by simp) ?_; (case hd => rfl); (case hg => rfl); (case hr => first | (go_simp; done) | (go_simp; rfl)); (case hp => exact (Reps.none _ _)); intro v384 w19 ho20 hb hg_ hnew_; clear hg_ hnew_; (first | rw [← Ny383.out] at ho20 | (simp only [Int.reduceToNat] at ho20; rw [← Ny383.out] at ho20)); have n0_ := Aside0.mk (Kd.R_elder' (by (with_reducible repeat (first | apply Kd.R_alloc | apply Kd.R_drewN | apply Kd.R_drew)); exact HO_3.out) (Kd.R_base ho20) hb); have n1_ := Aside0.mk (Kd.R_lower (Kd.R_new' ho20 (Kd.R_lt (by (with_reducible repeat (first | apply Kd.R_alloc | apply Kd.R_drewN | apply Kd.R_drew)); exact HO_3.out))) (below_size (by repeat (first | (with_reducible first | exact HB.out | apply below_alloc | apply pw_below_drewN | apply below_drew1) | exact HB.out)))); have n2_ := Aside0.mk (below_step (by repeat (first | (with_reducible first | exact HB.out | apply below_alloc | apply pw_below_drewN | apply below_drew1) | exact HB.out)) hb); clear HO_3; clear HB; have HO_3 := n0_; have HO385 := n1_; have HB := n2_; clear n0_ n1_ n2_; clear hb ho20; have q21 : (x5_2 : Int) ≤ ((x3_1.length : Int) : Int) := of_decide_eq_true (by first | (with_reducible assumption) | assumption); obtain ⟨i021, hi021, _, hsz21, _⟩ := info_parts info41; have hroom21 : x3_1.length ≤ co3 := (Kd.R_reads' HO_3.out).2.1; have hC21 : Kd.C k41 _ (some ad381) x3_1.length x3_1 := (Kd.R_reads' HO_3.out).2.2; have q021 : (0 : Int) ≤ (x5_2 : Int) := of_decide_eq_true (by first | (with_reducible assumption) | assumption); have hcut21 := cut_from (P := Tryz.prog) 22 41 .i64 Tryz.underlying22 hi021 5 hsz21 (some ad381) x3_1.length co3 x5_2 q021 q21; have hr21 := Kd.C_drop (m := (x5_2 : Int).toNat) (c := co3) hC21 (by omega) hroom21; obtain ⟨A21, hA21⟩ : ∃ A1, A1 = (if co3 = (x5_2 : Int).toNat then (some ad381) else ((some ad381) : Option Addr).map (·.add ((x5_2 : Int).toNat * 5))) := ⟨_, rfl⟩; obtain ⟨c21, hc21⟩ : ∃ c1, c1 = co3 - (x5_2 : Int).toNat := ⟨_, rfl⟩; have hy21 : y386.length = x3_1.length - (x5_2 : Int).toNat := (by rw [Ny386.out, List.length_drop] <;> omega); rw [show (x3_1).drop (x5_2 : Int).toNat = y386 from Ny386.out.symm] at hr21; replace hr21 : Kd.C k41 _ A21 y386.length y386 := (by rw [hA21]; exact hr21); rw [← hy21, ← hA21, ← hc21] at hcut21; have HR389 := Aside0.mk hr21; have HC389 := Aside0.mk (show y386.length ≤ c21 from by rw [hy21, hc21]; exact Nat.sub_le_sub_right hroom21 _); clear hr21 hC21 hroom21 hi021 hsz21 hc21; have KY21 := Aside0.mk hy21; have KA21 := Aside0.mk hA21; clear hy21 hA21; have KL21 := Aside0.mk (show (x5_2 : Int).toNat ≤ x3_1.length from by omega); replace q21 := eq_true q21) | ((with_reducible refine gate_builtin (b := .append) (xs := #[.tmp 33, .tmp 36]) rfl ?_); at_builtin; refine Kd.R_append_rows k41 (w0 := w) w.heap.size rfl (.tmp 33) (.tmp 36) 22 41 (.agg #[(.string ⟨#[]⟩), (.int .u64 0), (.int .u64 0), (.string ⟨#[]⟩), (.int .u64 0)]) 56 rfl Tryz.underlying22 info41 rfl (by decide) (by omega) v384 y383 y386 _ _ _ (fun k_ => some k_ ≠ (.slice (some ad381) x3_1.length co3 : Value).ownBlock) (fun _ => False) rfl rfl ?aO ?aR (fun _ _ h => h) (fun _ h => h.elim) ?aF ?aB ?aS ?aL ?_; (case aR => repeat (first | exact (by repeat (first | (with_reducible exact HR389.out) | (with_reducible refine Kd.C_alloc ?_ _) | (with_reducible refine Kd.C_drewN ?_ _) | (with_reducible refine Kd.C_drew ?_) | exact HR389.out)) | (with_reducible refine Kd.C_alloc ?_ _) | (with_reducible refine Kd.C_drewN ?_ _) | (with_reducible refine Kd.C_drew ?_))); (case aB => exact (by repeat (first | (with_reducible first | exact HB.out | apply below_alloc | apply pw_below_drewN | apply below_drew1) | exact HB.out))); (case aF => exact (fun k_ hk => Kd.fresh' (Kd.R_lt (by (with_reducible repeat (first | apply Kd.R_alloc | apply Kd.R_drewN | apply Kd.R_drew)); exact HO_3.out)) k_ hk)); (case aO => exact (by (with_reducible repeat (first | apply Kd.R_alloc | apply Kd.R_drewN | apply Kd.R_drew)); exact Kd.R_mono HO385.out (fun _ hk => hk.2))); (case aS => exact (below_size (by repeat (first | (with_reducible first | exact HB.out | apply below_alloc | apply pw_below_drewN | apply below_drew1) | exact HB.out)))); (case aL => have := LMc14.out; omega); intro v391 w22 ho hb hg hat; rw [← Ny390.out] at ho; have n0_ := Aside0.mk (Kd.R_after (ok := (fun _ => True)) (by (with_reducible repeat (first | apply Kd.R_alloc | apply Kd.R_drewN | apply Kd.R_drew)); exact HO_3.out) hg hat); have n1_ := Aside0.mk (hb); have n2_ := Aside0.mk ((show Kd.C k41 w22 A21 y386.length y386 from by rw [Ny386.out, KA21.out]; exact Kd.C_drop (m := (x5_2 : Int).toNat) (c := co3) ((Kd.R_reads' (Kd.R_after (ok := (fun _ => True)) (by (with_reducible repeat (first | apply Kd.R_alloc | apply Kd.R_drewN | apply Kd.R_drew)); exact HO_3.out) hg hat)).2.2) KL21.out ((Kd.R_reads' (Kd.R_after (ok := (fun _ => True)) (by (with_reducible repeat (first | apply Kd.R_alloc | apply Kd.R_drewN | apply Kd.R_drew)); exact HO_3.out) hg hat)).2.1))); have n3_ := Aside0.mk (ho); clear HO_3; clear HB; clear HR389; clear HO385; have HO_3 := n0_; have HB := n1_; have HR389 := n2_; have HO392 := n3_; clear n0_ n1_ n2_ n3_; clear ho hb hg hat))
                 have n0_ := Aside0.mk (Kd.R_drew HO_3.out)
                 have n1_ := Aside0.mk (Kd.R_drew HO392.out)
                 have n2_ := Aside0.mk (Kd.C_drew HR389.out)
                 have n3_ := Aside0.mk (below_drew1 HB.out)
                 clear HO_3
                 clear HO392
                 clear HR389
                 clear HB
                 have HO_3 := n0_
                 have HO392 := n1_
                 have HR389 := n2_
                 have HB := n3_
                 clear n0_ n1_ n2_ n3_
                 have q24 : (x5_2 : Int) ≤ ((x3_1.length : Int) : Int) := of_decide_eq_true (by first | (with_reducible assumption) | assumption)
                 obtain ⟨i024, hi024, _, hsz24, _⟩ := info_parts info41
                 have hcut24 := cut_to (P := Tryz.prog) 22 41 .i64 Tryz.underlying22 hi024 (some ad381) x3_1.length co3 x5_2 (of_decide_eq_true (by first | (with_reducible assumption) | assumption)) q24 (Kd.R_reads' HO_3.out).2.1
                 have hr24 := Kd.R_take (m := (x5_2 : Int).toNat) HO_3.out (by omega)
                 have hy24 : y393.length = (x5_2 : Int).toNat := (by rw [Ny393.out, List.length_take]; omega)
                 rw [← Ny393.out] at hr24
                 rw [← hy24] at hr24 hcut24
                 clear hy24 hi024 hsz24 HO_3
                 have HO395 := Aside0.mk hr24
                 clear hr24
                 replace q24 := eq_true q24
                 have p396 : 0 ≤ (x4_1 : Int) := of_decide_eq_true (by first | (with_reducible assumption) | assumption)
                 have q396 : x4_1 < (l0.length : Int) := of_decide_eq_true (by first | (with_reducible assumption) | assumption)
                 obtain ⟨ad396, e396, hx396_0, hx396_1, hx396_2, hx396_3, hx396_4⟩ := at_T41 HR0.out x4_1 p396 q396
                 have hw396_4 := hx396_4
                 have hw396_3 := hx396_3
                 have hw396_2 := hx396_2
                 have hw396_1 := hx396_1
                 have hw396_0 := hx396_0
                 obtain rfl : ad382 = ad396 := (by injection e396)
                 replace hx396_0 := (HB.out.cell (World.block_lt_of_cell? w _ hx396_0)).trans hx396_0
                 replace hx396_1 := (HB.out.cell (World.block_lt_of_cell? w _ hx396_1)).trans hx396_1
                 replace hx396_2 := (HB.out.cell (World.block_lt_of_cell? w _ hx396_2)).trans hx396_2
                 replace hx396_3 := (HB.out.cell (World.block_lt_of_cell? w _ hx396_3)).trans hx396_3
                 replace hx396_4 := (HB.out.cell (World.block_lt_of_cell? w _ hx396_4)).trans hx396_4
                 replace p396 := eq_true p396
                 replace q396 := eq_true q396
                 refine start_ (n := 12) (S := fun w' => w'.cell? (ad382.add ((x4_1).toNat * 5)) = some (.string ((rd_T41 l0 x4_1).f0)) ∧ w'.cell? ⟨(ad382.add ((x4_1).toNat * 5)).block, (ad382.add ((x4_1).toNat * 5)).off + 1, none⟩ = some (.int .u64 ((rd_T41 l0 x4_1).f1.f0)) ∧ w'.cell? ⟨(ad382.add ((x4_1).toNat * 5)).block, (ad382.add ((x4_1).toNat * 5)).off + 2, none⟩ = some (.int .u64 ((rd_T41 l0 x4_1).f1.f1)) ∧ w'.cell? ⟨(ad382.add ((x4_1).toNat * 5)).block, (ad382.add ((x4_1).toNat * 5)).off + 3, none⟩ = some (.string ((rd_T41 l0 x4_1).f2)) ∧ w'.cell? ⟨(ad382.add ((x4_1).toNat * 5)).block, (ad382.add ((x4_1).toNat * 5)).off + 4, none⟩ = some (.int .u64 ((rd_T41 l0 x4_1).f3))) (ds := []) #[false, false, false, false, false, false, false, false, false, false, false, false] (by kernel_rfl) rfl rfl ⟨((HB.out.cell (World.block_lt_of_cell? w _ hw396_0)).trans hw396_0), ((HB.out.cell (World.block_lt_of_cell? w _ hw396_1)).trans hw396_1), ((HB.out.cell (World.block_lt_of_cell? w _ hw396_2)).trans hw396_2), ((HB.out.cell (World.block_lt_of_cell? w _ hw396_3)).trans hw396_3), ((HB.out.cell (World.block_lt_of_cell? w _ hw396_4)).trans hw396_4)⟩ (fun hHeld => ?_); refine with_tabW paymasterref12_Sort.tab9 paymasterref12_Sort.bits9 (fun HT_ HW_ => ?_)
                 generalize w22.drew = w23 at HO_3 HO392 HR389 HB HO395 hx396_0 hx396_1 hx396_2 hx396_3 hx396_4 hHeld ⊢
                 refine p_ 0 (some 38) HT_ ?_
                 refine p_ 1 (some 39) HT_ ?_
                 refine p_ 2 (some 40) HT_ ?_
                 refine p_ 3 (some 41) HT_ ?_
                 refine p_ 4 (some 42) HT_ ?_
                 refine p_ 5 (some 43) HT_ ?_
                 refine p_ 9 (some 47) HT_ ?_
                 refine t_ 6 (some 44) HT_ HW_ hHeld ?_
                 refine one_ (i := 7) (N := some 45) #[true, true, true, true, true, true, true, true, false, true, false, false] rfl rfl (one_of HT_.out (by kernel_rfl)) (by decide) (fun K hK => ?_)
                 refine value_ (w1 := ?_) (v := ?_) (by rfl) rfl ?_ ?_
                 rotate_left 2
                 ·go_simp
                  constructor
                  ·rfl
                  ·rfl
                 refine hK.out _ _ ⟨(World.cell?_alloc_lt _ _ _ (World.block_lt_of_cell? _ _ (((HB.out.cell (World.block_lt_of_cell? w _ hw396_0)).trans hw396_0)))).trans (((HB.out.cell (World.block_lt_of_cell? w _ hw396_0)).trans hw396_0)), (World.cell?_alloc_lt _ _ _ (World.block_lt_of_cell? _ _ (((HB.out.cell (World.block_lt_of_cell? w _ hw396_1)).trans hw396_1)))).trans (((HB.out.cell (World.block_lt_of_cell? w _ hw396_1)).trans hw396_1)), (World.cell?_alloc_lt _ _ _ (World.block_lt_of_cell? _ _ (((HB.out.cell (World.block_lt_of_cell? w _ hw396_2)).trans hw396_2)))).trans (((HB.out.cell (World.block_lt_of_cell? w _ hw396_2)).trans hw396_2)), (World.cell?_alloc_lt _ _ _ (World.block_lt_of_cell? _ _ (((HB.out.cell (World.block_lt_of_cell? w _ hw396_3)).trans hw396_3)))).trans (((HB.out.cell (World.block_lt_of_cell? w _ hw396_3)).trans hw396_3)), (World.cell?_alloc_lt _ _ _ (World.block_lt_of_cell? _ _ (((HB.out.cell (World.block_lt_of_cell? w _ hw396_4)).trans hw396_4)))).trans (((HB.out.cell (World.block_lt_of_cell? w _ hw396_4)).trans hw396_4))⟩ (fun hHeld => ?_)
                 clear hK K
                 refine norm_ (a' := ?_) ?_ ?_
                 rotate_left
                 ·show Act.put _ (some 45) _ = _
                  simp only [Act.put, List.setIfInBounds_toArray, List.set_cons_zero, List.set_cons_succ, i64_w, i32_w]
                  rfl
                 refine one_ (i := 8) (N := some 46) #[true, true, true, true, true, true, true, true, true, true, false, false] rfl rfl (one_of HT_.out (by kernel_rfl)) (by decide) (fun K hK => ?_)
                 refine Kd.R_append_step k41 (w0 := w) w.heap.size (by rfl) (.tmp 40) (.tmp 45) 22 41 (.agg #[(.string ⟨#[]⟩), (.int .u64 0), (.int .u64 0), (.string ⟨#[]⟩), (.int .u64 0)]) 56 rfl Tryz.underlying22 info41 rfl (by decide) (by omega) (.slice (some ad381) y393.length co3) y393 (⟨(rd_T41 l0 x4_1).f0, (⟨(rd_T41 l0 x4_1).f1.f0, (rd_T41 l0 x4_1).f1.f1⟩ : S39), (rd_T41 l0 x4_1).f2, (rd_T41 l0 x4_1).f3⟩ : S41) [.string ((rd_T41 l0 x4_1).f0), .int .u64 ((rd_T41 l0 x4_1).f1.f0), .int .u64 ((rd_T41 l0 x4_1).f1.f1), .string ((rd_T41 l0 x4_1).f2), .int .u64 ((rd_T41 l0 x4_1).f3)] (fun k_ => some k_ ≠ (v391 : Value).ownBlock) (fun _ => False) rfl rfl ?aP (fun _ hk => hk.elim) ?aF ?aO ?aB ?aS ?aL ?_
                 (case aP => exact k41_mkM _ _ _ (⟨(rd_T41 l0 x4_1).f0, (⟨(rd_T41 l0 x4_1).f1.f0, (rd_T41 l0 x4_1).f1.f1⟩ : S39), (rd_T41 l0 x4_1).f2, (rd_T41 l0 x4_1).f3⟩ : S41))
                 (case aB => exact (by repeat (first | (with_reducible first | exact HB.out | apply below_alloc | apply pw_below_drewN | apply below_drew1) | exact HB.out)))
                 (case aF => exact (fun k_ hk => Kd.fresh' (Kd.R_lt (by (with_reducible repeat (first | apply Kd.R_alloc | apply Kd.R_drewN | apply Kd.R_drew)); exact HO392.out)) k_ hk))
                 (case aO => exact (by (with_reducible repeat (first | apply Kd.R_alloc | apply Kd.R_drewN | apply Kd.R_drew)); exact Kd.R_mono HO395.out (fun _ hk => hk.2)))
                 (case aS => exact (below_size (by repeat (first | (with_reducible first | exact HB.out | apply below_alloc | apply pw_below_drewN | apply below_drew1) | exact HB.out))))
                 (case aL => have := LMc16.out; omega)
                 intro v398 w25 ho hb hg hat
                 rw [← Ny397.out] at ho
                 have n0_ := Aside0.mk (Kd.R_after (ok := (fun _ => True)) (by (with_reducible repeat (first | apply Kd.R_alloc | apply Kd.R_drewN | apply Kd.R_drew)); exact Kd.R_mono HO392.out (fun _ hk => ⟨trivial, by first | exact hk | exact fun e => hk (e.trans (own_len _ _ _ _ _))⟩)) hg hat)
                 have n1_ := Aside0.mk (hb)
                 have n2_ := Aside0.mk (ho)
                 clear HO392
                 clear HB
                 clear HO395
                 have HO392 := n0_
                 have HB := n1_
                 have HO399 := n2_
                 clear n0_ n1_ n2_
                 clear ho hb hg hat
                 obtain ⟨Ao27, co27, eo27⟩ := Kd.R_slice HO392.out
                 (first | subst eo27 | (injection eo27 with f1_ f2_ f3_; have f4_ := f1_.symm; have f5_ := f3_.symm; clear f1_ f2_ f3_; subst f4_; subst f5_))
                 refine hK.out _ _ ⟨((HB.out.cell (World.block_lt_of_cell? w _ hw396_0)).trans hw396_0), ((HB.out.cell (World.block_lt_of_cell? w _ hw396_1)).trans hw396_1), ((HB.out.cell (World.block_lt_of_cell? w _ hw396_2)).trans hw396_2), ((HB.out.cell (World.block_lt_of_cell? w _ hw396_3)).trans hw396_3), ((HB.out.cell (World.block_lt_of_cell? w _ hw396_4)).trans hw396_4)⟩ (fun hHeld => ?_)
                 clear hK K
                 refine norm_ (a' := ?_) ?_ ?_
                 rotate_left
                 ·show Act.put _ (some 46) _ = _
                  simp only [Act.put, List.setIfInBounds_toArray, List.set_cons_zero, List.set_cons_succ, i64_w, i32_w]
                  rfl
                 refine one_ (i := 10) (N := some 48) #[true, true, true, true, true, true, true, true, true, true, true, false] rfl rfl (one_of HT_.out (by kernel_rfl)) (by decide) (fun K hK => ?_)
                 refine Kd.R_append_rows_step k41 (w0 := w) w.heap.size (by rfl) (.tmp 46) (.tmp 47) 22 41 (.agg #[(.string ⟨#[]⟩), (.int .u64 0), (.int .u64 0), (.string ⟨#[]⟩), (.int .u64 0)]) 56 rfl Tryz.underlying22 info41 rfl (by decide) (by omega) v398 y397 y390 _ _ _ (fun k_ => some k_ ≠ (.slice Ao27 y390.length co27 : Value).ownBlock) (fun _ => False) rfl rfl ?aO ?aR (fun _ _ h => h) (fun _ h => h.elim) ?aF ?aB ?aS ?aL ?_
                 (case aR => repeat (first | exact (Kd.R_reads' HO392.out).2.2 | (with_reducible refine Kd.C_alloc ?_ _) | (with_reducible refine Kd.C_drewN ?_ _) | (with_reducible refine Kd.C_drew ?_)))
                 (case aB => exact (by repeat (first | (with_reducible first | exact HB.out | apply below_alloc | apply pw_below_drewN | apply below_drew1) | exact HB.out)))
                 (case aF => exact (fun k_ hk => Kd.fresh' (Kd.R_lt (by (with_reducible repeat (first | apply Kd.R_alloc | apply Kd.R_drewN | apply Kd.R_drew)); exact HO392.out)) k_ hk))
                 (case aO => exact (by (with_reducible repeat (first | apply Kd.R_alloc | apply Kd.R_drewN | apply Kd.R_drew)); exact HO399.out))
                 (case aS => exact (below_size (by repeat (first | (with_reducible first | exact HB.out | apply below_alloc | apply pw_below_drewN | apply below_drew1) | exact HB.out))))
                 (case aL => have := LMc17.out; omega)
                 intro v401 w26 ho hb hg hat
                 rw [← Ny400.out] at ho
                 have n0_ := Aside0.mk (Kd.R_after (ok := (fun _ => True)) (by (with_reducible repeat (first | apply Kd.R_alloc | apply Kd.R_drewN | apply Kd.R_drew)); exact HO392.out) hg hat)
                 have n1_ := Aside0.mk (hb)
                 have n2_ := Aside0.mk (ho)
                 clear HO392
                 clear HB
                 clear HO399
                 have HO392 := n0_
                 have HB := n1_
                 have HO402 := n2_
                 clear n0_ n1_ n2_
                 clear ho hb hg hat
                 refine hK.out _ _ ⟨((HB.out.cell (World.block_lt_of_cell? w _ hw396_0)).trans hw396_0), ((HB.out.cell (World.block_lt_of_cell? w _ hw396_1)).trans hw396_1), ((HB.out.cell (World.block_lt_of_cell? w _ hw396_2)).trans hw396_2), ((HB.out.cell (World.block_lt_of_cell? w _ hw396_3)).trans hw396_3), ((HB.out.cell (World.block_lt_of_cell? w _ hw396_4)).trans hw396_4)⟩ (fun hHeld => ?_)
                 clear hK K
                 refine norm_ (a' := ?_) ?_ ?_
                 rotate_left
                 ·show Act.put _ (some 48) _ = _
                  simp only [Act.put, List.setIfInBounds_toArray, List.set_cons_zero, List.set_cons_succ, i64_w, i32_w]
                  rfl
                 refine p_ 11 (some 3) HT_ ?_
                 refine done_ (done_of HT_.out (by kernel_rfl)) ?_
                 try go_wp2
                 go_roundg k2
                 case measure => have := HK1.out; have := HK2.out; omega
                 case rel => exact ⟨(y400), (wrap64 (x4_1 + 1)), (by first | rfl | (simp; done) | (simp [*]; done)), H', ⟨by have := HK1.out; have := HK2.out; omega⟩, ⟨by (with_reducible repeat (first | apply Kd.R_alloc | apply Kd.R_drewN | apply Kd.R_drew)); exact Kd.R_mono HO402.out (fun _ hk => trivial)⟩, ⟨by repeat (first | (with_reducible first | exact HB.out | apply below_alloc | apply pw_below_drewN | apply below_drew1) | exact HB.out)⟩⟩
                ·rw [if_neg c17] at H
                 exact absurd H (by simp)
               ·rw [if_neg c16] at H
                exact absurd H (by simp)
              ·rw [if_neg c14] at H
               exact absurd H (by simp)
             ·rw [if_neg c13] at H
              exact absurd H (by simp)
            ·rw [if_neg c12] at H
             exact absurd H (by simp)
          ·rw [if_neg c9] at H
           exact absurd H (by simp)
         ·rw [if_neg c8] at H
          exact absurd H (by simp)
        ·rw [if_neg c7] at H
         exact absurd H (by simp)
       ·rw [if_neg c6] at H
        exact absurd H (by simp)
      ·rw [if_neg c4] at H
       have c4b0 : decide (0 < x5_2) = false := decide_eq_false c4
       clear c4
       obtain ⟨y403, hy403⟩ : ∃ y_ : List (S41), y_ = (([] : List (S41))) := ⟨_, rfl⟩
       replace H : (if 0 ≤ x5_2 then (if x5_2 ≤ (x3_1.length : Int) then ((some (x3_1.drop (x5_2 : Int).toNat : List (S41))).bind fun y406 => (if y403.length + y406.length < 2513169434916 then ((some (y403 ++ y406 : List (S41))).bind fun y410 => ((some (x3_1.take (x5_2 : Int).toNat : List (S41))).bind fun y413 => (if 0 ≤ x4_1 then (if x4_1 < (l0.length : Int) then (if y413.length < 2513169434916 then ((some (y413 ++ [(⟨(rd_T41 l0 x4_1).f0, (⟨(rd_T41 l0 x4_1).f1.f0, (rd_T41 l0 x4_1).f1.f1⟩ : S39), (rd_T41 l0 x4_1).f2, (rd_T41 l0 x4_1).f3⟩ : S41)] : List (S41))).bind fun y417 => (if y417.length + y410.length < 2513169434916 then (paymasterref12_Sort.l0 k2 l0 (y417 ++ y410) (wrap64 (x4_1 + 1))) else (none))) else (none)) else (none)) else (none)))) else (none))) else (none)) else (none)) = some r := by first | (rw [hy403]; with_reducible exact H) | (have H2_ := (Option.bind_some _ _).symm.trans H; rw [hy403]; with_reducible exact H2_) | (have H2_ := (Option.bind_some _ _).symm.trans H; with_reducible exact H2_) | with_reducible exact H | (rw [hy403]; exact H) | exact H
       have Ny403 := Aside0.mk hy403
       clear hy403
       by_cases c28 : 0 ≤ x5_2
       ·rw [if_pos c28] at H
        have c28b0 := eq_true c28
        have c28b1 : decide (0 ≤ x5_2) = true := decide_eq_true c28
        clear c28
        by_cases c29 : x5_2 ≤ (x3_1.length : Int)
        ·rw [if_pos c29] at H
         have c29b0 := eq_true c29
         have c29b1 : decide (x5_2 ≤ (x3_1.length : Int)) = true := decide_eq_true c29
         clear c29
         obtain ⟨y406, hy406⟩ : ∃ y_ : List (S41), y_ = (x3_1.drop (x5_2 : Int).toNat) := ⟨_, rfl⟩
         replace H : (if y403.length + y406.length < 2513169434916 then ((some (y403 ++ y406 : List (S41))).bind fun y410 => ((some (x3_1.take (x5_2 : Int).toNat : List (S41))).bind fun y413 => (if 0 ≤ x4_1 then (if x4_1 < (l0.length : Int) then (if y413.length < 2513169434916 then ((some (y413 ++ [(⟨(rd_T41 l0 x4_1).f0, (⟨(rd_T41 l0 x4_1).f1.f0, (rd_T41 l0 x4_1).f1.f1⟩ : S39), (rd_T41 l0 x4_1).f2, (rd_T41 l0 x4_1).f3⟩ : S41)] : List (S41))).bind fun y417 => (if y417.length + y410.length < 2513169434916 then (paymasterref12_Sort.l0 k2 l0 (y417 ++ y410) (wrap64 (x4_1 + 1))) else (none))) else (none)) else (none)) else (none)))) else (none)) = some r := by first | (rw [hy406]; with_reducible exact H) | (have H2_ := (Option.bind_some _ _).symm.trans H; rw [hy406]; with_reducible exact H2_) | (have H2_ := (Option.bind_some _ _).symm.trans H; with_reducible exact H2_) | with_reducible exact H | (rw [hy406]; exact H) | exact H
         have Ny406 := Aside0.mk hy406
         clear hy406
         by_cases c30 : y403.length + y406.length < 2513169434916
         ·rw [if_pos c30] at H
          have LMc30 := Aside0.mk c30
          clear c30
          obtain ⟨y410, hy410⟩ : ∃ y_ : List (S41), y_ = (y403 ++ y406) := ⟨_, rfl⟩
          replace H : ((some (x3_1.take (x5_2 : Int).toNat : List (S41))).bind fun y413 => (if 0 ≤ x4_1 then (if x4_1 < (l0.length : Int) then (if y413.length < 2513169434916 then ((some (y413 ++ [(⟨(rd_T41 l0 x4_1).f0, (⟨(rd_T41 l0 x4_1).f1.f0, (rd_T41 l0 x4_1).f1.f1⟩ : S39), (rd_T41 l0 x4_1).f2, (rd_T41 l0 x4_1).f3⟩ : S41)] : List (S41))).bind fun y417 => (if y417.length + y410.length < 2513169434916 then (paymasterref12_Sort.l0 k2 l0 (y417 ++ y410) (wrap64 (x4_1 + 1))) else (none))) else (none)) else (none)) else (none))) = some r := by first | (rw [hy410]; with_reducible exact H) | (have H2_ := (Option.bind_some _ _).symm.trans H; rw [hy410]; with_reducible exact H2_) | (have H2_ := (Option.bind_some _ _).symm.trans H; with_reducible exact H2_) | with_reducible exact H | (rw [hy410]; exact H) | exact H
          have Ny410 := Aside0.mk hy410
          clear hy410
          have c31b0 := eq_true (of_decide_eq_true (by first | (with_reducible assumption) | assumption) : x5_2 ≤ (x3_1.length : Int))
          obtain ⟨y413, hy413⟩ : ∃ y_ : List (S41), y_ = (x3_1.take (x5_2 : Int).toNat) := ⟨_, rfl⟩
          replace H : (if 0 ≤ x4_1 then (if x4_1 < (l0.length : Int) then (if y413.length < 2513169434916 then ((some (y413 ++ [(⟨(rd_T41 l0 x4_1).f0, (⟨(rd_T41 l0 x4_1).f1.f0, (rd_T41 l0 x4_1).f1.f1⟩ : S39), (rd_T41 l0 x4_1).f2, (rd_T41 l0 x4_1).f3⟩ : S41)] : List (S41))).bind fun y417 => (if y417.length + y410.length < 2513169434916 then (paymasterref12_Sort.l0 k2 l0 (y417 ++ y410) (wrap64 (x4_1 + 1))) else (none))) else (none)) else (none)) else (none)) = some r := by first | (rw [hy413]; with_reducible exact H) | (have H2_ := (Option.bind_some _ _).symm.trans H; rw [hy413]; with_reducible exact H2_) | (have H2_ := (Option.bind_some _ _).symm.trans H; with_reducible exact H2_) | with_reducible exact H | (rw [hy413]; exact H) | exact H
          have Ny413 := Aside0.mk hy413
          clear hy413
          by_cases c32 : 0 ≤ x4_1
          ·rw [if_pos c32] at H
           have c32b0 : decide (0 ≤ x4_1) = true := decide_eq_true c32
           clear c32
           by_cases c33 : x4_1 < (l0.length : Int)
           ·rw [if_pos c33] at H
            have c33b0 : decide (x4_1 < (l0.length : Int)) = true := decide_eq_true c33
            clear c33
            by_cases c34 : y413.length < 2513169434916
            ·rw [if_pos c34] at H
             have LMc34 := Aside0.mk c34
             clear c34
             obtain ⟨y417, hy417⟩ : ∃ y_ : List (S41), y_ = (y413 ++ [(⟨(rd_T41 l0 x4_1).f0, (⟨(rd_T41 l0 x4_1).f1.f0, (rd_T41 l0 x4_1).f1.f1⟩ : S39), (rd_T41 l0 x4_1).f2, (rd_T41 l0 x4_1).f3⟩ : S41)]) := ⟨_, rfl⟩
             replace H : (if y417.length + y410.length < 2513169434916 then (paymasterref12_Sort.l0 k2 l0 (y417 ++ y410) (wrap64 (x4_1 + 1))) else (none)) = some r := by first | (rw [hy417]; with_reducible exact H) | (have H2_ := (Option.bind_some _ _).symm.trans H; rw [hy417]; with_reducible exact H2_) | (have H2_ := (Option.bind_some _ _).symm.trans H; with_reducible exact H2_) | with_reducible exact H | (rw [hy417]; exact H) | exact H
             have Ny417 := Aside0.mk hy417
             clear hy417
             by_cases c35 : y417.length + y410.length < 2513169434916
             ·rw [if_pos c35] at H
              have LMc35 := Aside0.mk c35
              clear c35
              obtain ⟨y420, hy420⟩ : ∃ y_ : List (S41), y_ = (y417 ++ y410) := ⟨_, rfl⟩
              replace H : (paymasterref12_Sort.l0 k2 l0 y420 (wrap64 (x4_1 + 1))) = some r := by first | (rw [hy420]; with_reducible exact H) | (have H2_ := (Option.bind_some _ _).symm.trans H; rw [hy420]; with_reducible exact H2_) | (have H2_ := (Option.bind_some _ _).symm.trans H; with_reducible exact H2_) | with_reducible exact H | (rw [hy420]; exact H) | exact H
              have Ny420 := Aside0.mk hy420
              clear hy420
              have H' := Aside0.mk H
              clear H
              try go_wp2
              have n0_ := Aside0.mk (Kd.R_drew HO_3.out)
              have n1_ := Aside0.mk (below_drew1 HB.out)
              clear HO_3
              clear HB
              have HO_3 := n0_
              have HB := n1_
              clear n0_ n1_
              refine start_ (n := 16) (S := fun w' => True) (ds := []) #[false, false, false, false, false, false, false, false, false, false, false, false, false, false, false, false] (by kernel_rfl) rfl rfl trivial (fun hHeld => ?_); refine with_tabW paymasterref12_Sort.tab6 paymasterref12_Sort.bits6 (fun HT_ HW_ => ?_)
              generalize wr.drew = w36 at HO_3 HB hHeld ⊢
              refine p_ 0 (some 15) HT_ ?_
              refine p_ 1 (some 16) HT_ ?_
              refine p_ 2 (some 17) HT_ ?_
              refine o_ 3 (some 18) HT_ ?_
              refine o_ 4 (some 19) HT_ ?_
              refine o_ 5 (some 20) HT_ ?_
              refine o_ 6 (some 21) HT_ ?_
              refine o_ 7 (some 22) HT_ ?_
              refine o_ 8 (some 23) HT_ ?_
              refine o_ 9 (some 24) HT_ ?_
              refine o_ 10 (some 25) HT_ ?_
              refine o_ 11 (some 26) HT_ ?_
              refine o_ 12 (some 27) HT_ ?_
              refine o_ 13 (some 28) HT_ ?_
              refine o_ 14 (some 29) HT_ ?_
              refine p_ 15 (some 30) HT_ ?_
              refine done_ (done_of HT_.out (by kernel_rfl)) ?_
              try go_wp2_with (first | ((with_reducible refine gate_dst (N := 33) rfl ?_); refine Kd.R_lit k41 _ 41 ?hg (N := 33) ?hd (xs := ([] : List (S41))) (inner := []) (ok := fun _ => True) (okp := fun _ => True) ?hr ?hp (fun _ hk => hk) trivial (Below.refl _ _) (Nat.le_refl _) (by simp) ?_; (case hd => rfl); (case hg => rfl); (case hr => first | (go_simp; done) | (go_simp; rfl)); (case hp => exact (Reps.none _ _)); intro v404 w37 ho38 hb hg_ hnew_; clear hg_ hnew_; (first | rw [← Ny403.out] at ho38 | (simp only [Int.reduceToNat] at ho38; rw [← Ny403.out] at ho38)); have n0_ := Aside0.mk (Kd.R_elder' (by (with_reducible repeat (first | apply Kd.R_alloc | apply Kd.R_drewN | apply Kd.R_drew)); exact HO_3.out) (Kd.R_base ho38) hb); have n1_ := Aside0.mk (Kd.R_lower (Kd.R_new' ho38 (Kd.R_lt (by (with_reducible repeat (first | apply Kd.R_alloc | apply Kd.R_drewN | apply Kd.R_drew)); exact HO_3.out))) (below_size (by repeat (first | (with_reducible first | exact HB.out | apply below_alloc | apply pw_below_drewN | apply below_drew1) | exact HB.out)))); have n2_ := Aside0.mk (below_step (by repeat (first | (with_reducible first | exact HB.out | apply below_alloc | apply pw_below_drewN | apply below_drew1) | exact HB.out)) hb); clear HO_3; clear HB; have HO_3 := n0_; have HO405 := n1_; have HB := n2_; clear n0_ n1_ n2_; clear hb ho38; have q39 : (x5_2 : Int) ≤ ((x3_1.length : Int) : Int) := of_decide_eq_true (by first | (with_reducible assumption) | assumption); obtain ⟨i039, hi039, _, hsz39, _⟩ := info_parts info41; have hroom39 : x3_1.length ≤ co3 := (Kd.R_reads' HO_3.out).2.1; have hC39 : Kd.C k41 _ Ao3 x3_1.length x3_1 := (Kd.R_reads' HO_3.out).2.2; have q039 : (0 : Int) ≤ (x5_2 : Int) := of_decide_eq_true (by first | (with_reducible assumption) | assumption); have hcut39 := cut_from (P := Tryz.prog) 22 41 .i64 Tryz.underlying22 hi039 5 hsz39 Ao3 x3_1.length co3 x5_2 q039 q39; have hr39 := Kd.C_drop (m := (x5_2 : Int).toNat) (c := co3) hC39 (by omega) hroom39; obtain ⟨A39, hA39⟩ : ∃ A1, A1 = (if co3 = (x5_2 : Int).toNat then Ao3 else (Ao3 : Option Addr).map (·.add ((x5_2 : Int).toNat * 5))) := ⟨_, rfl⟩; obtain ⟨c39, hc39⟩ : ∃ c1, c1 = co3 - (x5_2 : Int).toNat := ⟨_, rfl⟩; have hy39 : y406.length = x3_1.length - (x5_2 : Int).toNat := (by rw [Ny406.out, List.length_drop] <;> omega); rw [show (x3_1).drop (x5_2 : Int).toNat = y406 from Ny406.out.symm] at hr39; replace hr39 : Kd.C k41 _ A39 y406.length y406 := (by rw [hA39]; exact hr39); rw [← hy39, ← hA39, ← hc39] at hcut39; have HR409 := Aside0.mk hr39; have HC409 := Aside0.mk (show y406.length ≤ c39 from by rw [hy39, hc39]; exact Nat.sub_le_sub_right hroom39 _); clear hr39 hC39 hroom39 hi039 hsz39 hc39; have KY39 := Aside0.mk hy39; have KA39 := Aside0.mk hA39; clear hy39 hA39; have KL39 := Aside0.mk (show (x5_2 : Int).toNat ≤ x3_1.length from by omega); replace q39 := eq_true q39) | ((with_reducible refine gate_builtin (b := .append) (xs := #[.tmp 33, .tmp 36]) rfl ?_); at_builtin; refine Kd.R_append_rows k41 (w0 := w) w.heap.size rfl (.tmp 33) (.tmp 36) 22 41 (.agg #[(.string ⟨#[]⟩), (.int .u64 0), (.int .u64 0), (.string ⟨#[]⟩), (.int .u64 0)]) 56 rfl Tryz.underlying22 info41 rfl (by decide) (by omega) v404 y403 y406 _ _ _ (fun k_ => some k_ ≠ (.slice Ao3 x3_1.length co3 : Value).ownBlock) (fun _ => False) rfl rfl ?aO ?aR (fun _ _ h => h) (fun _ h => h.elim) ?aF ?aB ?aS ?aL ?_; (case aR => repeat (first | exact (by repeat (first | (with_reducible exact HR409.out) | (with_reducible refine Kd.C_alloc ?_ _) | (with_reducible refine Kd.C_drewN ?_ _) | (with_reducible refine Kd.C_drew ?_) | exact HR409.out)) | (with_reducible refine Kd.C_alloc ?_ _) | (with_reducible refine Kd.C_drewN ?_ _) | (with_reducible refine Kd.C_drew ?_))); (case aB => exact (by repeat (first | (with_reducible first | exact HB.out | apply below_alloc | apply pw_below_drewN | apply below_drew1) | exact HB.out))); (case aF => exact (fun k_ hk => Kd.fresh' (Kd.R_lt (by (with_reducible repeat (first | apply Kd.R_alloc | apply Kd.R_drewN | apply Kd.R_drew)); exact HO_3.out)) k_ hk)); (case aO => exact (by (with_reducible repeat (first | apply Kd.R_alloc | apply Kd.R_drewN | apply Kd.R_drew)); exact Kd.R_mono HO405.out (fun _ hk => hk.2))); (case aS => exact (below_size (by repeat (first | (with_reducible first | exact HB.out | apply below_alloc | apply pw_below_drewN | apply below_drew1) | exact HB.out)))); (case aL => have := LMc30.out; omega); intro v411 w40 ho hb hg hat; rw [← Ny410.out] at ho; have n0_ := Aside0.mk (Kd.R_after (ok := (fun _ => True)) (by (with_reducible repeat (first | apply Kd.R_alloc | apply Kd.R_drewN | apply Kd.R_drew)); exact HO_3.out) hg hat); have n1_ := Aside0.mk (hb); have n2_ := Aside0.mk ((show Kd.C k41 w40 A39 y406.length y406 from by rw [Ny406.out, KA39.out]; exact Kd.C_drop (m := (x5_2 : Int).toNat) (c := co3) ((Kd.R_reads' (Kd.R_after (ok := (fun _ => True)) (by (with_reducible repeat (first | apply Kd.R_alloc | apply Kd.R_drewN | apply Kd.R_drew)); exact HO_3.out) hg hat)).2.2) KL39.out ((Kd.R_reads' (Kd.R_after (ok := (fun _ => True)) (by (with_reducible repeat (first | apply Kd.R_alloc | apply Kd.R_drewN | apply Kd.R_drew)); exact HO_3.out) hg hat)).2.1))); have n3_ := Aside0.mk (ho); clear HO_3; clear HB; clear HR409; clear HO405; have HO_3 := n0_; have HB := n1_; have HR409 := n2_; have HO412 := n3_; clear n0_ n1_ n2_ n3_; clear ho hb hg hat))
              have n0_ := Aside0.mk (Kd.R_drew HO_3.out)
              have n1_ := Aside0.mk (Kd.R_drew HO412.out)
              have n2_ := Aside0.mk (Kd.C_drew HR409.out)
              have n3_ := Aside0.mk (below_drew1 HB.out)
              clear HO_3
              clear HO412
              clear HR409
              clear HB
              have HO_3 := n0_
              have HO412 := n1_
              have HR409 := n2_
              have HB := n3_
              clear n0_ n1_ n2_ n3_
              have q42 : (x5_2 : Int) ≤ ((x3_1.length : Int) : Int) := of_decide_eq_true (by first | (with_reducible assumption) | assumption)
              obtain ⟨i042, hi042, _, hsz42, _⟩ := info_parts info41
              have hcut42 := cut_to (P := Tryz.prog) 22 41 .i64 Tryz.underlying22 hi042 Ao3 x3_1.length co3 x5_2 (of_decide_eq_true (by first | (with_reducible assumption) | assumption)) q42 (Kd.R_reads' HO_3.out).2.1
              have hr42 := Kd.R_take (m := (x5_2 : Int).toNat) HO_3.out (by omega)
              have hy42 : y413.length = (x5_2 : Int).toNat := (by rw [Ny413.out, List.length_take]; omega)
              rw [← Ny413.out] at hr42
              rw [← hy42] at hr42 hcut42
              clear hy42 hi042 hsz42 HO_3
              have HO415 := Aside0.mk hr42
              clear hr42
              replace q42 := eq_true q42
              have p416 : 0 ≤ (x4_1 : Int) := of_decide_eq_true (by first | (with_reducible assumption) | assumption)
              have q416 : x4_1 < (l0.length : Int) := of_decide_eq_true (by first | (with_reducible assumption) | assumption)
              obtain ⟨ad416, e416, hx416_0, hx416_1, hx416_2, hx416_3, hx416_4⟩ := at_T41 HR0.out x4_1 p416 q416
              have hw416_4 := hx416_4
              have hw416_3 := hx416_3
              have hw416_2 := hx416_2
              have hw416_1 := hx416_1
              have hw416_0 := hx416_0
              cases e416
              replace hx416_0 := (HB.out.cell (World.block_lt_of_cell? w _ hx416_0)).trans hx416_0
              replace hx416_1 := (HB.out.cell (World.block_lt_of_cell? w _ hx416_1)).trans hx416_1
              replace hx416_2 := (HB.out.cell (World.block_lt_of_cell? w _ hx416_2)).trans hx416_2
              replace hx416_3 := (HB.out.cell (World.block_lt_of_cell? w _ hx416_3)).trans hx416_3
              replace hx416_4 := (HB.out.cell (World.block_lt_of_cell? w _ hx416_4)).trans hx416_4
              replace p416 := eq_true p416
              replace q416 := eq_true q416
              refine start_ (n := 12) (S := fun w' => w'.cell? (ad416.add ((x4_1).toNat * 5)) = some (.string ((rd_T41 l0 x4_1).f0)) ∧ w'.cell? ⟨(ad416.add ((x4_1).toNat * 5)).block, (ad416.add ((x4_1).toNat * 5)).off + 1, none⟩ = some (.int .u64 ((rd_T41 l0 x4_1).f1.f0)) ∧ w'.cell? ⟨(ad416.add ((x4_1).toNat * 5)).block, (ad416.add ((x4_1).toNat * 5)).off + 2, none⟩ = some (.int .u64 ((rd_T41 l0 x4_1).f1.f1)) ∧ w'.cell? ⟨(ad416.add ((x4_1).toNat * 5)).block, (ad416.add ((x4_1).toNat * 5)).off + 3, none⟩ = some (.string ((rd_T41 l0 x4_1).f2)) ∧ w'.cell? ⟨(ad416.add ((x4_1).toNat * 5)).block, (ad416.add ((x4_1).toNat * 5)).off + 4, none⟩ = some (.int .u64 ((rd_T41 l0 x4_1).f3))) (ds := []) #[false, false, false, false, false, false, false, false, false, false, false, false] (by kernel_rfl) rfl rfl ⟨((HB.out.cell (World.block_lt_of_cell? w _ hw416_0)).trans hw416_0), ((HB.out.cell (World.block_lt_of_cell? w _ hw416_1)).trans hw416_1), ((HB.out.cell (World.block_lt_of_cell? w _ hw416_2)).trans hw416_2), ((HB.out.cell (World.block_lt_of_cell? w _ hw416_3)).trans hw416_3), ((HB.out.cell (World.block_lt_of_cell? w _ hw416_4)).trans hw416_4)⟩ (fun hHeld => ?_); refine with_tabW paymasterref12_Sort.tab9 paymasterref12_Sort.bits9 (fun HT_ HW_ => ?_)
              generalize w40.drew = w41 at HO_3 HO412 HR409 HB HO415 hx416_0 hx416_1 hx416_2 hx416_3 hx416_4 hHeld ⊢
              refine p_ 0 (some 38) HT_ ?_
              refine p_ 1 (some 39) HT_ ?_
              refine p_ 2 (some 40) HT_ ?_
              refine p_ 3 (some 41) HT_ ?_
              refine p_ 4 (some 42) HT_ ?_
              refine p_ 5 (some 43) HT_ ?_
              refine p_ 9 (some 47) HT_ ?_
              refine t_ 6 (some 44) HT_ HW_ hHeld ?_
              refine one_ (i := 7) (N := some 45) #[true, true, true, true, true, true, true, true, false, true, false, false] rfl rfl (one_of HT_.out (by kernel_rfl)) (by decide) (fun K hK => ?_)
              refine value_ (w1 := ?_) (v := ?_) (by rfl) rfl ?_ ?_
              rotate_left 2
              ·go_simp
               constructor
               ·rfl
               ·rfl
              refine hK.out _ _ ⟨(World.cell?_alloc_lt _ _ _ (World.block_lt_of_cell? _ _ (((HB.out.cell (World.block_lt_of_cell? w _ hw416_0)).trans hw416_0)))).trans (((HB.out.cell (World.block_lt_of_cell? w _ hw416_0)).trans hw416_0)), (World.cell?_alloc_lt _ _ _ (World.block_lt_of_cell? _ _ (((HB.out.cell (World.block_lt_of_cell? w _ hw416_1)).trans hw416_1)))).trans (((HB.out.cell (World.block_lt_of_cell? w _ hw416_1)).trans hw416_1)), (World.cell?_alloc_lt _ _ _ (World.block_lt_of_cell? _ _ (((HB.out.cell (World.block_lt_of_cell? w _ hw416_2)).trans hw416_2)))).trans (((HB.out.cell (World.block_lt_of_cell? w _ hw416_2)).trans hw416_2)), (World.cell?_alloc_lt _ _ _ (World.block_lt_of_cell? _ _ (((HB.out.cell (World.block_lt_of_cell? w _ hw416_3)).trans hw416_3)))).trans (((HB.out.cell (World.block_lt_of_cell? w _ hw416_3)).trans hw416_3)), (World.cell?_alloc_lt _ _ _ (World.block_lt_of_cell? _ _ (((HB.out.cell (World.block_lt_of_cell? w _ hw416_4)).trans hw416_4)))).trans (((HB.out.cell (World.block_lt_of_cell? w _ hw416_4)).trans hw416_4))⟩ (fun hHeld => ?_)
              clear hK K
              refine norm_ (a' := ?_) ?_ ?_
              rotate_left
              ·show Act.put _ (some 45) _ = _
               simp only [Act.put, List.setIfInBounds_toArray, List.set_cons_zero, List.set_cons_succ, i64_w, i32_w]
               rfl
              refine one_ (i := 8) (N := some 46) #[true, true, true, true, true, true, true, true, true, true, false, false] rfl rfl (one_of HT_.out (by kernel_rfl)) (by decide) (fun K hK => ?_)
              refine Kd.R_append_step k41 (w0 := w) w.heap.size (by rfl) (.tmp 40) (.tmp 45) 22 41 (.agg #[(.string ⟨#[]⟩), (.int .u64 0), (.int .u64 0), (.string ⟨#[]⟩), (.int .u64 0)]) 56 rfl Tryz.underlying22 info41 rfl (by decide) (by omega) (.slice Ao3 y413.length co3) y413 (⟨(rd_T41 l0 x4_1).f0, (⟨(rd_T41 l0 x4_1).f1.f0, (rd_T41 l0 x4_1).f1.f1⟩ : S39), (rd_T41 l0 x4_1).f2, (rd_T41 l0 x4_1).f3⟩ : S41) [.string ((rd_T41 l0 x4_1).f0), .int .u64 ((rd_T41 l0 x4_1).f1.f0), .int .u64 ((rd_T41 l0 x4_1).f1.f1), .string ((rd_T41 l0 x4_1).f2), .int .u64 ((rd_T41 l0 x4_1).f3)] (fun k_ => some k_ ≠ (v411 : Value).ownBlock) (fun _ => False) rfl rfl ?aP (fun _ hk => hk.elim) ?aF ?aO ?aB ?aS ?aL ?_
              (case aP => exact k41_mkM _ _ _ (⟨(rd_T41 l0 x4_1).f0, (⟨(rd_T41 l0 x4_1).f1.f0, (rd_T41 l0 x4_1).f1.f1⟩ : S39), (rd_T41 l0 x4_1).f2, (rd_T41 l0 x4_1).f3⟩ : S41))
              (case aB => exact (by repeat (first | (with_reducible first | exact HB.out | apply below_alloc | apply pw_below_drewN | apply below_drew1) | exact HB.out)))
              (case aF => exact (fun k_ hk => Kd.fresh' (Kd.R_lt (by (with_reducible repeat (first | apply Kd.R_alloc | apply Kd.R_drewN | apply Kd.R_drew)); exact HO412.out)) k_ hk))
              (case aO => exact (by (with_reducible repeat (first | apply Kd.R_alloc | apply Kd.R_drewN | apply Kd.R_drew)); exact Kd.R_mono HO415.out (fun _ hk => hk.2)))
              (case aS => exact (below_size (by repeat (first | (with_reducible first | exact HB.out | apply below_alloc | apply pw_below_drewN | apply below_drew1) | exact HB.out))))
              (case aL => have := LMc34.out; omega)
              intro v418 w43 ho hb hg hat
              rw [← Ny417.out] at ho
              have n0_ := Aside0.mk (Kd.R_after (ok := (fun _ => True)) (by (with_reducible repeat (first | apply Kd.R_alloc | apply Kd.R_drewN | apply Kd.R_drew)); exact Kd.R_mono HO412.out (fun _ hk => ⟨trivial, by first | exact hk | exact fun e => hk (e.trans (own_len _ _ _ _ _))⟩)) hg hat)
              have n1_ := Aside0.mk (hb)
              have n2_ := Aside0.mk (ho)
              clear HO412
              clear HB
              clear HO415
              have HO412 := n0_
              have HB := n1_
              have HO419 := n2_
              clear n0_ n1_ n2_
              clear ho hb hg hat
              obtain ⟨Ao45, co45, eo45⟩ := Kd.R_slice HO412.out
              (first | subst eo45 | (injection eo45 with f1_ f2_ f3_; have f4_ := f1_.symm; have f5_ := f3_.symm; clear f1_ f2_ f3_; subst f4_; subst f5_))
              refine hK.out _ _ ⟨((HB.out.cell (World.block_lt_of_cell? w _ hw416_0)).trans hw416_0), ((HB.out.cell (World.block_lt_of_cell? w _ hw416_1)).trans hw416_1), ((HB.out.cell (World.block_lt_of_cell? w _ hw416_2)).trans hw416_2), ((HB.out.cell (World.block_lt_of_cell? w _ hw416_3)).trans hw416_3), ((HB.out.cell (World.block_lt_of_cell? w _ hw416_4)).trans hw416_4)⟩ (fun hHeld => ?_)
              clear hK K
              refine norm_ (a' := ?_) ?_ ?_
              rotate_left
              ·show Act.put _ (some 46) _ = _
               simp only [Act.put, List.setIfInBounds_toArray, List.set_cons_zero, List.set_cons_succ, i64_w, i32_w]
               rfl
              refine one_ (i := 10) (N := some 48) #[true, true, true, true, true, true, true, true, true, true, true, false] rfl rfl (one_of HT_.out (by kernel_rfl)) (by decide) (fun K hK => ?_)
              refine Kd.R_append_rows_step k41 (w0 := w) w.heap.size (by rfl) (.tmp 46) (.tmp 47) 22 41 (.agg #[(.string ⟨#[]⟩), (.int .u64 0), (.int .u64 0), (.string ⟨#[]⟩), (.int .u64 0)]) 56 rfl Tryz.underlying22 info41 rfl (by decide) (by omega) v418 y417 y410 _ _ _ (fun k_ => some k_ ≠ (.slice Ao45 y410.length co45 : Value).ownBlock) (fun _ => False) rfl rfl ?aO ?aR (fun _ _ h => h) (fun _ h => h.elim) ?aF ?aB ?aS ?aL ?_
              (case aR => repeat (first | exact (Kd.R_reads' HO412.out).2.2 | (with_reducible refine Kd.C_alloc ?_ _) | (with_reducible refine Kd.C_drewN ?_ _) | (with_reducible refine Kd.C_drew ?_)))
              (case aB => exact (by repeat (first | (with_reducible first | exact HB.out | apply below_alloc | apply pw_below_drewN | apply below_drew1) | exact HB.out)))
              (case aF => exact (fun k_ hk => Kd.fresh' (Kd.R_lt (by (with_reducible repeat (first | apply Kd.R_alloc | apply Kd.R_drewN | apply Kd.R_drew)); exact HO412.out)) k_ hk))
              (case aO => exact (by (with_reducible repeat (first | apply Kd.R_alloc | apply Kd.R_drewN | apply Kd.R_drew)); exact HO419.out))
              (case aS => exact (below_size (by repeat (first | (with_reducible first | exact HB.out | apply below_alloc | apply pw_below_drewN | apply below_drew1) | exact HB.out))))
              (case aL => have := LMc35.out; omega)
              intro v421 w44 ho hb hg hat
              rw [← Ny420.out] at ho
              have n0_ := Aside0.mk (Kd.R_after (ok := (fun _ => True)) (by (with_reducible repeat (first | apply Kd.R_alloc | apply Kd.R_drewN | apply Kd.R_drew)); exact HO412.out) hg hat)
              have n1_ := Aside0.mk (hb)
              have n2_ := Aside0.mk (ho)
              clear HO412
              clear HB
              clear HO419
              have HO412 := n0_
              have HB := n1_
              have HO422 := n2_
              clear n0_ n1_ n2_
              clear ho hb hg hat
              refine hK.out _ _ ⟨((HB.out.cell (World.block_lt_of_cell? w _ hw416_0)).trans hw416_0), ((HB.out.cell (World.block_lt_of_cell? w _ hw416_1)).trans hw416_1), ((HB.out.cell (World.block_lt_of_cell? w _ hw416_2)).trans hw416_2), ((HB.out.cell (World.block_lt_of_cell? w _ hw416_3)).trans hw416_3), ((HB.out.cell (World.block_lt_of_cell? w _ hw416_4)).trans hw416_4)⟩ (fun hHeld => ?_)
              clear hK K
              refine norm_ (a' := ?_) ?_ ?_
              rotate_left
              ·show Act.put _ (some 48) _ = _
               simp only [Act.put, List.setIfInBounds_toArray, List.set_cons_zero, List.set_cons_succ, i64_w, i32_w]
               rfl
              refine p_ 11 (some 3) HT_ ?_
              refine done_ (done_of HT_.out (by kernel_rfl)) ?_
              try go_wp2
              go_roundg k2
              case measure => have := HK1.out; have := HK2.out; omega
              case rel => exact ⟨(y420), (wrap64 (x4_1 + 1)), (by first | rfl | (simp; done) | (simp [*]; done)), H', ⟨by have := HK1.out; have := HK2.out; omega⟩, ⟨by (with_reducible repeat (first | apply Kd.R_alloc | apply Kd.R_drewN | apply Kd.R_drew)); exact Kd.R_mono HO422.out (fun _ hk => trivial)⟩, ⟨by repeat (first | (with_reducible first | exact HB.out | apply below_alloc | apply pw_below_drewN | apply below_drew1) | exact HB.out)⟩⟩
             ·rw [if_neg c35] at H
              exact absurd H (by simp)
            ·rw [if_neg c34] at H
             exact absurd H (by simp)
           ·rw [if_neg c33] at H
            exact absurd H (by simp)
          ·rw [if_neg c32] at H
           exact absurd H (by simp)
         ·rw [if_neg c30] at H
          exact absurd H (by simp)
        ·rw [if_neg c29] at H
         exact absurd H (by simp)
       ·rw [if_neg c28] at H
        exact absurd H (by simp)
   ·rw [if_neg c2] at H
    have c2b0 : decide (x4_1 < (l0.length : Int)) = false := decide_eq_false c2
    clear c2
    obtain rfl := Option.some.inj H
    go_wp2
    go_ret
    exact ⟨_, by first | rfl | (simp [errW_none, errW_some] <;> rfl) | (simp [*, errW_none, errW_some] <;> rfl), by (with_reducible repeat (first | apply Kd.R_alloc | apply Kd.R_drewN | apply Kd.R_drew)); exact HO_3.out, by repeat (first | (with_reducible first | exact HB.out | apply below_alloc | apply pw_below_drewN | apply below_drew1) | exact HB.out)⟩

end Go.Proofs.YtfijhbfdkcajjaaGreatDoor.Pr
