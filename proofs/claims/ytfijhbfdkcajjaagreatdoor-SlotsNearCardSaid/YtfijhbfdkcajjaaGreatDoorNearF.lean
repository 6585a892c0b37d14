/- What SlotsNear computes (out of the print). -/
import Derived.Test.YtfijhbfdkcajjaaGreatDoorPrx0
import Derived.Test.YtfijhbfdkcajjaaGreatDoorPrx4
import Derived.Test.YtfijhbfdkcajjaaGreatDoorPrx5
import Derived.Test.YtfijhbfdkcajjaaGreatDoorPrx10
import Derived.Test.YtfijhbfdkcajjaaGreatDoorAwakeF
import Derived.Test.YtfijhbfdkcajjaaGreatDoorFinds
import Derived.Test.YtfijhbfdkcajjaaGreatDoorPFirst
import Derived.Test.YtfijhbfdkcajjaaGreatDoorPlaceF
namespace Go.Proofs.YtfijhbfdkcajjaaGreatDoor.Pr
open Go.RowKit Go.Proofs.YtfijhbfdkcajjaaGreatDoorW.PrintWords Go.Proofs.YtfijhbfdkcajjaaGreatDoorW.PrintLast Go.Proofs.YtfijhbfdkcajjaaGreatDoorW.PrintMore
attribute [local go_sem] max2_int min2_int max_two min_two max_three min_three max_four min_four   -- for this text's walks alone
set_option linter.unusedVariables false
set_option linter.unusedSimpArgs false

mutual
def paymasterlaw12_SlotsNear.j0 : Nat → ByteArray → Int → List (S41) → List (S45) → Bool → Option (Bool)
  | 0, _, _, _, _, _ => none
  | k + 1, x0, x1, x2, x3, x33 => if x33 = true then (some true) else ((slots_Place.f x0 x1 x2 x3).bind fun bt120 => (if bt120.2 = 0 then (if x1 < 0 then (paymasterlaw12_SlotsNear.j1 k x0 x1 x2 bt120.1 bt120.2 true) else (paymasterlaw12_SlotsNear.j1 k x0 x1 x2 bt120.1 bt120.2 (decide (x1 > 10)))) else (paymasterlaw12_SlotsNear.j1 k x0 x1 x2 bt120.1 bt120.2 true)))
def paymasterlaw12_SlotsNear.j1 : Nat → ByteArray → Int → List (S41) → List (S41) → Int → Bool → Option (Bool)
  | 0, _, _, _, _, _, _ => none
  | k + 1, x0, x1, x2, x9, x10, x51 => if x51 = true then (some (x10 != 0)) else (if 0 ≤ (IntKind.u64.wrap (x1)) then (paymasterlaw12_SlotsNear.l0 k x0 x1 x2 x9 (shl .u64 1 (IntKind.u64.wrap (x1))) 0) else (none))
def paymasterlaw12_SlotsNear.l0 : Nat → ByteArray → Int → List (S41) → List (S41) → Int → Int → Option (Bool)
  | 0, _, _, _, _, _, _ => none
  | k + 1, x0, x1, x2, x9, x11, x12 => if x12 < (x9.length : Int) then (if 0 ≤ x12 then ((slots_Find.f x2 ((rd_T41 x9 x12).f0)).bind fun bt125 => (if bt125.2.2.2.2.2 = true then (paymasterlaw12_SlotsNear.l0 k x0 x1 x2 x9 x11 (wrap64 (x12 + 1))) else ((tag_First.f x0 ((rd_T41 x9 x12).f0) x1).bind fun t133 => (paymasterlaw12_SlotsNear.l1 k x0 x1 x2 x9 x11 x12 t133 0)))) else (none)) else (some true)
def paymasterlaw12_SlotsNear.l1 : Nat → ByteArray → Int → List (S41) → List (S41) → Int → Int → Int → Int → Option (Bool)
  | 0, _, _, _, _, _, _, _, _ => none
  | k + 1, x0, x1, x2, x9, x11, x12, x15, x16 => if 0 ≤ x12 then (if x12 < (x9.length : Int) then (if x15 = ((rd_T41 x9 x12).f3) then (paymasterlaw12_SlotsNear.l0 k x0 x1 x2 x9 x11 (wrap64 (x12 + 1))) else ((slots_At.f x9 x15).bind fun bt135 => ((slots_Find.f x2 bt135.1).bind fun bt142 => (if bt135.2.2.2.2.2 = true then (if bt142.2.2.2.2.2 = true then (if x16 > x11 then (some false) else (if x11 = 0 then (none) else (paymasterlaw12_SlotsNear.l1 k x0 x1 x2 x9 x11 x12 (Int.tmod (IntKind.u64.wrap (x15 + 1)) x11) (IntKind.u64.wrap (x16 + 1))))) else (if ((Op.bytesLess bt135.1.toList (((rd_T41 x9 x12).f0).toList)) = true) then (if x16 > x11 then (some false) else (if x11 = 0 then (none) else (paymasterlaw12_SlotsNear.l1 k x0 x1 x2 x9 x11 x12 (Int.tmod (IntKind.u64.wrap (x15 + 1)) x11) (IntKind.u64.wrap (x16 + 1))))) else (some false))) else (some false))))) else (none)) else (none)
end
def paymasterlaw12_SlotsNear.f (k : Nat) (a0 : ByteArray) (a1 : Int) (l2 : List (S41)) (l3 : List (S45)) : Option (Bool) := (paymasterlaw12_awake.f).bind fun t117 => (if t117 = true then (if (a0.size : Int) > 64 then (paymasterlaw12_SlotsNear.j0 k a0 a1 l2 l3 true) else ((paymasterlaw12_Long.f k l2).bind fun t118 => (if t118 = true then (paymasterlaw12_SlotsNear.j0 k a0 a1 l2 l3 true) else ((paymasterlaw10_Long.f k l3).bind fun t119 => (paymasterlaw12_SlotsNear.j0 k a0 a1 l2 l3 t119))))) else (some false))
theorem paymasterlaw12_SlotsNear.mono_l : ∀ k, (∀ y0 y1 y2 y3 y4, LeO (paymasterlaw12_SlotsNear.j0 k y0 y1 y2 y3 y4) (paymasterlaw12_SlotsNear.j0 (k + 1) y0 y1 y2 y3 y4)) ∧ (∀ y0 y1 y2 y3 y4 y5, LeO (paymasterlaw12_SlotsNear.j1 k y0 y1 y2 y3 y4 y5) (paymasterlaw12_SlotsNear.j1 (k + 1) y0 y1 y2 y3 y4 y5)) ∧ (∀ y0 y1 y2 y3 y4 y5, LeO (paymasterlaw12_SlotsNear.l0 k y0 y1 y2 y3 y4 y5) (paymasterlaw12_SlotsNear.l0 (k + 1) y0 y1 y2 y3 y4 y5)) ∧ (∀ y0 y1 y2 y3 y4 y5 y6 y7, LeO (paymasterlaw12_SlotsNear.l1 k y0 y1 y2 y3 y4 y5 y6 y7) (paymasterlaw12_SlotsNear.l1 (k + 1) y0 y1 y2 y3 y4 y5 y6 y7))
  | 0 => ⟨fun _ _ _ _ _ r h => by simp [paymasterlaw12_SlotsNear.j0] at h, fun _ _ _ _ _ _ r h => by simp [paymasterlaw12_SlotsNear.j1] at h, fun _ _ _ _ _ _ r h => by simp [paymasterlaw12_SlotsNear.l0] at h, fun _ _ _ _ _ _ _ _ r h => by simp [paymasterlaw12_SlotsNear.l1] at h⟩
  | k + 1 => by
    obtain ⟨ih0, ih1, ih2, ih3⟩ := paymasterlaw12_SlotsNear.mono_l k
    refine ⟨?_, ?_, ?_, ?_⟩
    · intro y0 y1 y2 y3 y4
      unfold paymasterlaw12_SlotsNear.j0
      repeat' first
      | (with_reducible exact ih0 _ _ _ _ _)
      | (with_reducible exact ih1 _ _ _ _ _ _)
      | (with_reducible exact ih2 _ _ _ _ _ _)
      | (with_reducible exact ih3 _ _ _ _ _ _ _ _)
      | (with_reducible exact paymasterlaw10_Long.mono _ _)
      | (with_reducible exact paymasterlaw12_Long.mono _ _)
      | (with_reducible exact LeO.refl _)
      | (with_reducible exact LeO.none _)
      | (with_reducible refine LeO.ite ?_ ?_)
      | (with_reducible refine LeO.bind ?_ (fun _ => ?_))
      | exact ih0 _ _ _ _ _
      | exact ih1 _ _ _ _ _ _
      | exact ih2 _ _ _ _ _ _
      | exact ih3 _ _ _ _ _ _ _ _
      | exact paymasterlaw10_Long.mono _ _
      | exact paymasterlaw12_Long.mono _ _
      | exact LeO.none _
      | refine LeO.ite ?_ ?_
      | refine LeO.bind ?_ (fun _ => ?_)
    · intro y0 y1 y2 y3 y4 y5
      unfold paymasterlaw12_SlotsNear.j1
      repeat' first
      | (with_reducible exact ih0 _ _ _ _ _)
      | (with_reducible exact ih1 _ _ _ _ _ _)
      | (with_reducible exact ih2 _ _ _ _ _ _)
      | (with_reducible exact ih3 _ _ _ _ _ _ _ _)
      | (with_reducible exact paymasterlaw10_Long.mono _ _)
      | (with_reducible exact paymasterlaw12_Long.mono _ _)
      | (with_reducible exact LeO.refl _)
      | (with_reducible exact LeO.none _)
      | (with_reducible refine LeO.ite ?_ ?_)
      | (with_reducible refine LeO.bind ?_ (fun _ => ?_))
      | exact ih0 _ _ _ _ _
      | exact ih1 _ _ _ _ _ _
      | exact ih2 _ _ _ _ _ _
      | exact ih3 _ _ _ _ _ _ _ _
      | exact paymasterlaw10_Long.mono _ _
      | exact paymasterlaw12_Long.mono _ _
      | exact LeO.none _
      | refine LeO.ite ?_ ?_
      | refine LeO.bind ?_ (fun _ => ?_)
    · intro y0 y1 y2 y3 y4 y5
      unfold paymasterlaw12_SlotsNear.l0
      repeat' first
      | (with_reducible exact ih0 _ _ _ _ _)
      | (with_reducible exact ih1 _ _ _ _ _ _)
      | (with_reducible exact ih2 _ _ _ _ _ _)
      | (with_reducible exact ih3 _ _ _ _ _ _ _ _)
      | (with_reducible exact paymasterlaw10_Long.mono _ _)
      | (with_reducible exact paymasterlaw12_Long.mono _ _)
      | (with_reducible exact LeO.refl _)
      | (with_reducible exact LeO.none _)
      | (with_reducible refine LeO.ite ?_ ?_)
      | (with_reducible refine LeO.bind ?_ (fun _ => ?_))
      | exact ih0 _ _ _ _ _
      | exact ih1 _ _ _ _ _ _
      | exact ih2 _ _ _ _ _ _
      | exact ih3 _ _ _ _ _ _ _ _
      | exact paymasterlaw10_Long.mono _ _
      | exact paymasterlaw12_Long.mono _ _
      | exact LeO.none _
      | refine LeO.ite ?_ ?_
      | refine LeO.bind ?_ (fun _ => ?_)
    · intro y0 y1 y2 y3 y4 y5 y6 y7
      unfold paymasterlaw12_SlotsNear.l1
      repeat' first
      | (with_reducible exact ih0 _ _ _ _ _)
      | (with_reducible exact ih1 _ _ _ _ _ _)
      | (with_reducible exact ih2 _ _ _ _ _ _)
      | (with_reducible exact ih3 _ _ _ _ _ _ _ _)
      | (with_reducible exact paymasterlaw10_Long.mono _ _)
      | (with_reducible exact paymasterlaw12_Long.mono _ _)
      | (with_reducible exact LeO.refl _)
      | (with_reducible exact LeO.none _)
      | (with_reducible refine LeO.ite ?_ ?_)
      | (with_reducible refine LeO.bind ?_ (fun _ => ?_))
      | exact ih0 _ _ _ _ _
      | exact ih1 _ _ _ _ _ _
      | exact ih2 _ _ _ _ _ _
      | exact ih3 _ _ _ _ _ _ _ _
      | exact paymasterlaw10_Long.mono _ _
      | exact paymasterlaw12_Long.mono _ _
      | exact LeO.none _
      | refine LeO.ite ?_ ?_
      | refine LeO.bind ?_ (fun _ => ?_)
theorem paymasterlaw12_SlotsNear.mono : ∀ a0 a1 a2 a3 k, LeO (paymasterlaw12_SlotsNear.f k a0 a1 a2 a3) (paymasterlaw12_SlotsNear.f (k + 1) a0 a1 a2 a3) := by
  intro a0 a1 a2 a3 k
  obtain ⟨ih0, ih1, ih2, ih3⟩ := paymasterlaw12_SlotsNear.mono_l k
  unfold paymasterlaw12_SlotsNear.f
  repeat' first
      | (with_reducible exact ih0 _ _ _ _ _)
      | (with_reducible exact ih1 _ _ _ _ _ _)
      | (with_reducible exact ih2 _ _ _ _ _ _)
      | (with_reducible exact ih3 _ _ _ _ _ _ _ _)
      | (with_reducible exact paymasterlaw10_Long.mono _ _)
      | (with_reducible exact paymasterlaw12_Long.mono _ _)
      | (with_reducible exact LeO.refl _)
      | (with_reducible exact LeO.none _)
      | (with_reducible refine LeO.ite ?_ ?_)
      | (with_reducible refine LeO.bind ?_ (fun _ => ?_))
      | exact ih0 _ _ _ _ _
      | exact ih1 _ _ _ _ _ _
      | exact ih2 _ _ _ _ _ _
      | exact ih3 _ _ _ _ _ _ _ _
      | exact paymasterlaw10_Long.mono _ _
      | exact paymasterlaw12_Long.mono _ _
      | exact LeO.none _
      | refine LeO.ite ?_ ?_
      | refine LeO.bind ?_ (fun _ => ?_)
theorem strle_false {a b : List UInt8} (h : Op.bytesLess b a = true) : (Op.bytesLess a b || a == b) = false := by
  rw [Bool.or_eq_false_iff]
  constructor
  · cases e : Op.bytesLess a b with
    | false => rfl
    | true => have := Go.SortKey.bl_trans e h; rw [Go.SortKey.bl_irrefl] at this; cases this
  · rw [beq_eq_false_iff_ne]
    rintro rfl
    rw [Go.SortKey.bl_irrefl] at h; cases h
theorem strge_false {a b : List UInt8} (h : Op.bytesLess b a = true) : (Op.bytesLess a b || b == a) = false := by
  have := strle_false h
  rw [Bool.or_eq_false_iff] at this ⊢
  refine ⟨this.1, ?_⟩
  rw [beq_eq_false_iff_ne] at this ⊢
  exact fun e => this.2 e.symm
end Go.Proofs.YtfijhbfdkcajjaaGreatDoor.Pr
