/- What SlotsHold computes (out of the print). -/
import Derived.Test.YtfijhbfdkcajjaaGreatDoorPrx0
import Derived.Test.YtfijhbfdkcajjaaGreatDoorPrx1
import Derived.Test.YtfijhbfdkcajjaaGreatDoorPrx4
import Derived.Test.YtfijhbfdkcajjaaGreatDoorPrx7
import Derived.Test.YtfijhbfdkcajjaaGreatDoorPrx8
import Derived.Test.YtfijhbfdkcajjaaGreatDoorPrx9
import Derived.Test.YtfijhbfdkcajjaaGreatDoorAwakeF
import Derived.Test.YtfijhbfdkcajjaaGreatDoorBal
import Derived.Test.YtfijhbfdkcajjaaGreatDoorFinds
import Derived.Test.YtfijhbfdkcajjaaGreatDoorMay
import Derived.Test.YtfijhbfdkcajjaaGreatDoorPPad
namespace Go.Proofs.YtfijhbfdkcajjaaGreatDoor.Pr
open Go.RowKit Go.Proofs.YtfijhbfdkcajjaaGreatDoorW.PrintWords Go.Proofs.YtfijhbfdkcajjaaGreatDoorW.PrintLast Go.Proofs.YtfijhbfdkcajjaaGreatDoorW.PrintMore
attribute [local go_sem] max2_int min2_int max_two min_two max_three min_three max_four min_four   -- for this text's walks alone
set_option linter.unusedVariables false
set_option linter.unusedSimpArgs false

theorem eqA55 (d : Nat) (w : World) (x0 y0 : Bool) (x1 y1 : ByteArray) (x2 y2 : ByteArray) (x3 y3 : Int) (x4 y4 : Int) :
    (Op.equalIn (d + 3) 55 (.agg #[.bool x0, .string x1, .string x2, .int .u64 x3, .int .u64 x4]) (.agg #[.bool y0, .string y1, .string y2, .int .u64 y3, .int .u64 y4])).run Tryz.prog w = .ok (x0 == y0 && (x1.toList == y1.toList && (x2.toList == y2.toList && ((x3 == y3 && (x4 == y4)))))) w := by
  refine eqA_of Tryz.underlying55 (by kernel_rfl) ?_
  refine eqf_cons (by rfl) (by go_simp; rfl) (by go_simp; rfl) (by go_simp) ?_
  refine eqf_cons (by rfl) (by go_simp; rfl) (by go_simp; rfl) (by go_simp) ?_
  refine eqf_cons (by rfl) (by go_simp; rfl) (by go_simp; rfl) (by go_simp) ?_
  exact eqf_last (by rfl) (by go_simp) (by go_simp) (eqA39 (d + 0) w _ _ _ _)
attribute [local go_sem high] eqA55
mutual
def paymasterlaw12_SlotsHold.j0 : Nat → ByteArray → Int → List (S41) → Bool → Option (Bool)
  | 0, _, _, _, _ => none
  | k + 1, x0, x1, x2, x28 => if x28 = true then (some true) else ((slots_Leaves.f k x0 x1 x2).bind fun bt151 => (if bt151.2 = 0 then (if 0 ≤ (IntKind.u64.wrap (mx x1 0)) then (if (bt151.1.length : Int) = (shl .i64 1 (IntKind.u64.wrap (mx x1 0))) then (paymasterlaw12_SlotsHold.l0 k x0 x2 bt151.1 ([] : List (S39)) 0 0) else (some false)) else (none)) else (if (bt151.1.length : Int) = 0 then ((slots_May.f x2 x1).bind fun t155 => (some (!t155))) else (some false))))
def paymasterlaw12_SlotsHold.l0 : Nat → ByteArray → List (S41) → List (S55) → List (S39) → Int → Int → Option (Bool)
  | 0, _, _, _, _, _, _ => none
  | k + 1, x0, x2, x7, x9, x11, x12 => if x12 < (x7.length : Int) then ((slots_At.f x2 (IntKind.u64.wrap (x12))).bind fun bt156 => (if 0 ≤ x12 then ((tag_MayLeaf.f ((rd_T55 x7 x12).f0) ((rd_T55 x7 x12).f1) ((rd_T55 x7 x12).f2) ((rd_T55 x7 x12).f3.f0) ((rd_T55 x7 x12).f3.f1)).bind fun t164 => (if t164 = true then (if (((rd_T55 x7 x12).f0) == bt156.2.2.2.2.2) = true then (paymasterlaw12_SlotsHold.j2 k x0 x2 x7 x9 x11 x12 true) else (if bt156.2.2.2.2.2 = true then ((slots_Leaf.f bt156.1 bt156.2.1 bt156.2.2.1 bt156.2.2.2.1 bt156.2.2.2.2.1).bind fun bt167 => (if (!(((rd_T55 x7 x12).f0) == bt167.1) || (!((((rd_T55 x7 x12).f1).toList) == bt167.2.1.toList) || (!((((rd_T55 x7 x12).f2).toList) == bt167.2.2.1.toList) || ((!(((rd_T55 x7 x12).f3.f0) == bt167.2.2.2.1) || (!(((rd_T55 x7 x12).f3.f1) == bt167.2.2.2.2))))))) = true then (paymasterlaw12_SlotsHold.j2 k x0 x2 x7 x9 x11 x12 true) else (paymasterlaw12_SlotsHold.j2 k x0 x2 x7 x9 x11 x12 false))) else ((tag_Pad.f x0 (IntKind.u64.wrap (x12))).bind fun bt173 => (paymasterlaw12_SlotsHold.j2 k x0 x2 x7 x9 x11 x12 (!(((rd_T55 x7 x12).f0) == bt173.1) || (!((((rd_T55 x7 x12).f1).toList) == bt173.2.1.toList) || (!((((rd_T55 x7 x12).f2).toList) == bt173.2.2.1.toList) || ((!(((rd_T55 x7 x12).f3.f0) == bt173.2.2.2.1) || (!(((rd_T55 x7 x12).f3.f1) == bt173.2.2.2.2))))))))))) else (paymasterlaw12_SlotsHold.j2 k x0 x2 x7 x9 x11 x12 true))) else (none))) else (paymasterlaw12_SlotsHold.l1 k x2 x7 x9 ([] : List (S39)) x11 0)
def paymasterlaw12_SlotsHold.j2 : Nat → ByteArray → List (S41) → List (S55) → List (S39) → Int → Int → Bool → Option (Bool)
  | 0, _, _, _, _, _, _, _ => none
  | k + 1, x0, x2, x7, x9, x11, x12, x108 => if x108 = true then (some false) else (if 0 ≤ x12 then (if x12 < (x7.length : Int) then (if (rd_T55 x7 x12).f0 = true then (if x9.length < 8796093022208 then (paymasterlaw12_SlotsHold.l0 k x0 x2 x7 (x9 ++ [(⟨(rd_T55 x7 x12).f3.f0, (rd_T55 x7 x12).f3.f1⟩ : S39)]) (wrap64 (x11 + 1)) (wrap64 (x12 + 1))) else (none)) else (if x9.length < 8796093022208 then (paymasterlaw12_SlotsHold.l0 k x0 x2 x7 (x9 ++ [(⟨(rd_T55 x7 x12).f3.f0, (rd_T55 x7 x12).f3.f1⟩ : S39)]) x11 (wrap64 (x12 + 1))) else (none))) else (none)) else (none))
def paymasterlaw12_SlotsHold.l1 : Nat → List (S41) → List (S55) → List (S39) → List (S39) → Int → Int → Option (Bool)
  | 0, _, _, _, _, _, _ => none
  | k + 1, x2, x7, x9, x10, x11, x15 => if x15 < (x2.length : Int) then (if 0 ≤ x15 then (if x10.length < 8796093022208 then (paymasterlaw12_SlotsHold.l1 k x2 x7 x9 (x10 ++ [(⟨(rd_T41 x2 x15).f1.f0, (rd_T41 x2 x15).f1.f1⟩ : S39)]) x11 (wrap64 (x15 + 1))) else (none)) else (none)) else (if (wrap64 (x11 + (x2.length : Int))) = (x7.length : Int) then ((wide_Balanced.f x9 x10).bind fun t191 => (some t191)) else (some false))
end
def paymasterlaw12_SlotsHold.f (k : Nat) (a0 : ByteArray) (a1 : Int) (l2 : List (S41)) : Option (Bool) := (paymasterlaw12_awake.f).bind fun t149 => (if t149 = true then (if (a0.size : Int) > 64 then (paymasterlaw12_SlotsHold.j0 k a0 a1 l2 true) else ((paymasterlaw12_Long.f k l2).bind fun t150 => (if t150 = true then (paymasterlaw12_SlotsHold.j0 k a0 a1 l2 true) else (paymasterlaw12_SlotsHold.j0 k a0 a1 l2 (decide (a1 > 6)))))) else (some false))
theorem paymasterlaw12_SlotsHold.mono_l : ∀ k, (∀ y0 y1 y2 y3, LeO (paymasterlaw12_SlotsHold.j0 k y0 y1 y2 y3) (paymasterlaw12_SlotsHold.j0 (k + 1) y0 y1 y2 y3)) ∧ (∀ y0 y1 y2 y3 y4 y5, LeO (paymasterlaw12_SlotsHold.l0 k y0 y1 y2 y3 y4 y5) (paymasterlaw12_SlotsHold.l0 (k + 1) y0 y1 y2 y3 y4 y5)) ∧ (∀ y0 y1 y2 y3 y4 y5 y6, LeO (paymasterlaw12_SlotsHold.j2 k y0 y1 y2 y3 y4 y5 y6) (paymasterlaw12_SlotsHold.j2 (k + 1) y0 y1 y2 y3 y4 y5 y6)) ∧ (∀ y0 y1 y2 y3 y4 y5, LeO (paymasterlaw12_SlotsHold.l1 k y0 y1 y2 y3 y4 y5) (paymasterlaw12_SlotsHold.l1 (k + 1) y0 y1 y2 y3 y4 y5))
  | 0 => ⟨fun _ _ _ _ r h => by simp [paymasterlaw12_SlotsHold.j0] at h, fun _ _ _ _ _ _ r h => by simp [paymasterlaw12_SlotsHold.l0] at h, fun _ _ _ _ _ _ _ r h => by simp [paymasterlaw12_SlotsHold.j2] at h, fun _ _ _ _ _ _ r h => by simp [paymasterlaw12_SlotsHold.l1] at h⟩
  | k + 1 => by
    obtain ⟨ih0, ih1, ih2, ih3⟩ := paymasterlaw12_SlotsHold.mono_l k
    refine ⟨?_, ?_, ?_, ?_⟩
    · intro y0 y1 y2 y3
      unfold paymasterlaw12_SlotsHold.j0
      repeat' first
      | (with_reducible exact ih0 _ _ _ _)
      | (with_reducible exact ih1 _ _ _ _ _ _)
      | (with_reducible exact ih2 _ _ _ _ _ _ _)
      | (with_reducible exact ih3 _ _ _ _ _ _)
      | (with_reducible exact paymasterlaw12_Long.mono _ _)
      | (with_reducible exact slots_Leaves.mono _ _ _ _)
      | (with_reducible exact LeO.refl _)
      | (with_reducible exact LeO.none _)
      | (with_reducible refine LeO.ite ?_ ?_)
      | (with_reducible refine LeO.bind ?_ (fun _ => ?_))
      | exact ih0 _ _ _ _
      | exact ih1 _ _ _ _ _ _
      | exact ih2 _ _ _ _ _ _ _
      | exact ih3 _ _ _ _ _ _
      | exact paymasterlaw12_Long.mono _ _
      | exact slots_Leaves.mono _ _ _ _
      | exact LeO.none _
      | refine LeO.ite ?_ ?_
      | refine LeO.bind ?_ (fun _ => ?_)
    · intro y0 y1 y2 y3 y4 y5
      unfold paymasterlaw12_SlotsHold.l0
      repeat' first
      | (with_reducible exact ih0 _ _ _ _)
      | (with_reducible exact ih1 _ _ _ _ _ _)
      | (with_reducible exact ih2 _ _ _ _ _ _ _)
      | (with_reducible exact ih3 _ _ _ _ _ _)
      | (with_reducible exact paymasterlaw12_Long.mono _ _)
      | (with_reducible exact slots_Leaves.mono _ _ _ _)
      | (with_reducible exact LeO.refl _)
      | (with_reducible exact LeO.none _)
      | (with_reducible refine LeO.ite ?_ ?_)
      | (with_reducible refine LeO.bind ?_ (fun _ => ?_))
      | exact ih0 _ _ _ _
      | exact ih1 _ _ _ _ _ _
      | exact ih2 _ _ _ _ _ _ _
      | exact ih3 _ _ _ _ _ _
      | exact paymasterlaw12_Long.mono _ _
      | exact slots_Leaves.mono _ _ _ _
      | exact LeO.none _
      | refine LeO.ite ?_ ?_
      | refine LeO.bind ?_ (fun _ => ?_)
    · intro y0 y1 y2 y3 y4 y5 y6
      unfold paymasterlaw12_SlotsHold.j2
      repeat' first
      | (with_reducible exact ih0 _ _ _ _)
      | (with_reducible exact ih1 _ _ _ _ _ _)
      | (with_reducible exact ih2 _ _ _ _ _ _ _)
      | (with_reducible exact ih3 _ _ _ _ _ _)
      | (with_reducible exact paymasterlaw12_Long.mono _ _)
      | (with_reducible exact slots_Leaves.mono _ _ _ _)
      | (with_reducible exact LeO.refl _)
      | (with_reducible exact LeO.none _)
      | (with_reducible refine LeO.ite ?_ ?_)
      | (with_reducible refine LeO.bind ?_ (fun _ => ?_))
      | exact ih0 _ _ _ _
      | exact ih1 _ _ _ _ _ _
      | exact ih2 _ _ _ _ _ _ _
      | exact ih3 _ _ _ _ _ _
      | exact paymasterlaw12_Long.mono _ _
      | exact slots_Leaves.mono _ _ _ _
      | exact LeO.none _
      | refine LeO.ite ?_ ?_
      | refine LeO.bind ?_ (fun _ => ?_)
    · intro y0 y1 y2 y3 y4 y5
      unfold paymasterlaw12_SlotsHold.l1
      repeat' first
      | (with_reducible exact ih0 _ _ _ _)
      | (with_reducible exact ih1 _ _ _ _ _ _)
      | (with_reducible exact ih2 _ _ _ _ _ _ _)
      | (with_reducible exact ih3 _ _ _ _ _ _)
      | (with_reducible exact paymasterlaw12_Long.mono _ _)
      | (with_reducible exact slots_Leaves.mono _ _ _ _)
      | (with_reducible exact LeO.refl _)
      | (with_reducible exact LeO.none _)
      | (with_reducible refine LeO.ite ?_ ?_)
      | (with_reducible refine LeO.bind ?_ (fun _ => ?_))
      | exact ih0 _ _ _ _
      | exact ih1 _ _ _ _ _ _
      | exact ih2 _ _ _ _ _ _ _
      | exact ih3 _ _ _ _ _ _
      | exact paymasterlaw12_Long.mono _ _
      | exact slots_Leaves.mono _ _ _ _
      | exact LeO.none _
      | refine LeO.ite ?_ ?_
      | refine LeO.bind ?_ (fun _ => ?_)
theorem paymasterlaw12_SlotsHold.mono : ∀ a0 a1 a2 k, LeO (paymasterlaw12_SlotsHold.f k a0 a1 a2) (paymasterlaw12_SlotsHold.f (k + 1) a0 a1 a2) := by
  intro a0 a1 a2 k
  obtain ⟨ih0, ih1, ih2, ih3⟩ := paymasterlaw12_SlotsHold.mono_l k
  unfold paymasterlaw12_SlotsHold.f
  repeat' first
      | (with_reducible exact ih0 _ _ _ _)
      | (with_reducible exact ih1 _ _ _ _ _ _)
      | (with_reducible exact ih2 _ _ _ _ _ _ _)
      | (with_reducible exact ih3 _ _ _ _ _ _)
      | (with_reducible exact paymasterlaw12_Long.mono _ _)
      | (with_reducible exact slots_Leaves.mono _ _ _ _)
      | (with_reducible exact LeO.refl _)
      | (with_reducible exact LeO.none _)
      | (with_reducible refine LeO.ite ?_ ?_)
      | (with_reducible refine LeO.bind ?_ (fun _ => ?_))
      | exact ih0 _ _ _ _
      | exact ih1 _ _ _ _ _ _
      | exact ih2 _ _ _ _ _ _ _
      | exact ih3 _ _ _ _ _ _
      | exact paymasterlaw12_Long.mono _ _
      | exact slots_Leaves.mono _ _ _ _
      | exact LeO.none _
      | refine LeO.ite ?_ ?_
      | refine LeO.bind ?_ (fun _ => ?_)
theorem paymasterlaw12_SlotsHold.j2_no {k : Nat} {x0 : ByteArray} {x2 : List S41} {x7 : List S55} {x9 : List S39} {x11 x12 : Int} {r : Bool} (h : paymasterlaw12_SlotsHold.j2 k x0 x2 x7 x9 x11 x12 true = some r) (hr : r = true) : False := by
  cases k with
  | zero => simp [paymasterlaw12_SlotsHold.j2] at h
  | succ k => rw [paymasterlaw12_SlotsHold.j2, if_pos rfl, hr] at h; cases h
end Go.Proofs.YtfijhbfdkcajjaaGreatDoor.Pr
