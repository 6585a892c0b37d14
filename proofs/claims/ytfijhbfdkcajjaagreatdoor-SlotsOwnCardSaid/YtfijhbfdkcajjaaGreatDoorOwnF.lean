/- What SlotsOwn computes (out of the print). -/
import Derived.Test.YtfijhbfdkcajjaaGreatDoorPrx0
import Derived.Test.YtfijhbfdkcajjaaGreatDoorPrx1
import Derived.Test.YtfijhbfdkcajjaaGreatDoorPrx4
import Derived.Test.YtfijhbfdkcajjaaGreatDoorPrx5
import Derived.Test.YtfijhbfdkcajjaaGreatDoorPrx10
import Derived.Test.YtfijhbfdkcajjaaGreatDoorAwakeF
import Derived.Test.YtfijhbfdkcajjaaGreatDoorFinds
import Derived.Test.YtfijhbfdkcajjaaGreatDoorMay
import Derived.Test.YtfijhbfdkcajjaaGreatDoorSmall
import Derived.Test.YtfijhbfdkcajjaaGreatDoorPlaceF
namespace Go.Proofs.YtfijhbfdkcajjaaGreatDoor.Pr
open Go.RowKit Go.Proofs.YtfijhbfdkcajjaaGreatDoorW.PrintWords Go.Proofs.YtfijhbfdkcajjaaGreatDoorW.PrintLast Go.Proofs.YtfijhbfdkcajjaaGreatDoorW.PrintMore
attribute [local go_sem] max2_int min2_int max_two min_two max_three min_three max_four min_four   -- for this text's walks alone
set_option linter.unusedVariables false
set_option linter.unusedSimpArgs false

attribute [local go_sem high] eqA39
mutual
def paymasterlaw12_SlotsOwn.j0 : Nat → ByteArray → Int → List (S41) → List (S45) → Bool → Option (Bool)
  | 0, _, _, _, _, _ => none
  | k + 1, x0, x1, x2, x3, x29 => if x29 = true then (some true) else ((slots_Place.f x0 x1 x2 x3).bind fun bt120 => (if bt120.2 = 0 then ((slots_May.f bt120.1 x1).bind fun t125 => (if t125 = true then (paymasterlaw12_SlotsOwn.j1 k x0 x2 x3 bt120.1 ((bt120.1.length : Int) != (x3.length : Int))) else (paymasterlaw12_SlotsOwn.j1 k x0 x2 x3 bt120.1 true))) else (if (bt120.1.length : Int) = 0 then (if bt120.2 = 120 then (some true) else ((slots_May.f x2 x1).bind fun t124 => (if t124 = true then (if bt120.2 = 111 then (if 0 ≤ (IntKind.u64.wrap (mx x1 0)) then (if (x3.length : Int) > (shl .i64 1 (IntKind.u64.wrap (mx x1 0))) then (some true) else (some (bt120.2 == 2))) else (none)) else (some (bt120.2 == 2))) else (some true)))) else (some false))))
def paymasterlaw12_SlotsOwn.j1 : Nat → ByteArray → List (S41) → List (S45) → List (S41) → Bool → Option (Bool)
  | 0, _, _, _, _, _ => none
  | k + 1, x0, x2, x3, x9, x80 => if x80 = true then (some false) else (paymasterlaw12_SlotsOwn.l0 k x0 x2 x3 x9 0)
def paymasterlaw12_SlotsOwn.l0 : Nat → ByteArray → List (S41) → List (S45) → List (S41) → Int → Option (Bool)
  | 0, _, _, _, _, _ => none
  | k + 1, x0, x2, x3, x9, x11 => if x11 < (x3.length : Int) then (if 0 ≤ x11 then ((slots_Find.f x9 ((rd_T45 x3 x11).f0)).bind fun bt127 => ((slots_Find.f x2 ((rd_T45 x3 x11).f0)).bind fun bt135 => (if bt127.2.2.2.2.2 = true then (if (!(bt127.2.1 == ((rd_T45 x3 x11).f1.f0)) || (!(bt127.2.2.1 == ((rd_T45 x3 x11).f1.f1)))) = true then (some false) else (if bt135.2.2.2.2.2 = true then (if bt127.2.2.2.2.1 = bt135.2.2.2.2.1 then (if bt127.2.2.2.1.toList = bt135.2.2.2.1.toList then (paymasterlaw12_SlotsOwn.l0 k x0 x2 x3 x9 (wrap64 (x11 + 1))) else (some false)) else (some false)) else ((tag_Salt.f x0 bt127.1).bind fun t143 => (if bt127.2.2.2.1.toList = t143.toList then (paymasterlaw12_SlotsOwn.l0 k x0 x2 x3 x9 (wrap64 (x11 + 1))) else (some false))))) else (some false)))) else (none)) else (paymasterlaw12_SlotsOwn.l1 k x9 1)
def paymasterlaw12_SlotsOwn.l1 : Nat → List (S41) → Int → Option (Bool)
  | 0, _, _ => none
  | k + 1, x9, x16 => if x16 < (x9.length : Int) then (if 0 ≤ x16 then (if 0 ≤ (wrap64 (x16 - 1)) then (if (wrap64 (x16 - 1)) < (x9.length : Int) then (if ((Op.bytesLess (((rd_T41 x9 (wrap64 (x16 - 1))).f0).toList) (((rd_T41 x9 x16).f0).toList)) = true) then (paymasterlaw12_SlotsOwn.l1 k x9 (wrap64 (x16 + 1))) else (some false)) else (none)) else (none)) else (none)) else (some true)
end
def paymasterlaw12_SlotsOwn.f (k : Nat) (a0 : ByteArray) (a1 : Int) (l2 : List (S41)) (l3 : List (S45)) : Option (Bool) := (paymasterlaw12_awake.f).bind fun t117 => (if t117 = true then (if (a0.size : Int) > 64 then (paymasterlaw12_SlotsOwn.j0 k a0 a1 l2 l3 true) else ((paymasterlaw12_Long.f k l2).bind fun t118 => (if t118 = true then (paymasterlaw12_SlotsOwn.j0 k a0 a1 l2 l3 true) else ((paymasterlaw10_Long.f k l3).bind fun t119 => (paymasterlaw12_SlotsOwn.j0 k a0 a1 l2 l3 t119))))) else (some false))
theorem paymasterlaw12_SlotsOwn.mono_l : ∀ k, (∀ y0 y1 y2 y3 y4, LeO (paymasterlaw12_SlotsOwn.j0 k y0 y1 y2 y3 y4) (paymasterlaw12_SlotsOwn.j0 (k + 1) y0 y1 y2 y3 y4)) ∧ (∀ y0 y1 y2 y3 y4, LeO (paymasterlaw12_SlotsOwn.j1 k y0 y1 y2 y3 y4) (paymasterlaw12_SlotsOwn.j1 (k + 1) y0 y1 y2 y3 y4)) ∧ (∀ y0 y1 y2 y3 y4, LeO (paymasterlaw12_SlotsOwn.l0 k y0 y1 y2 y3 y4) (paymasterlaw12_SlotsOwn.l0 (k + 1) y0 y1 y2 y3 y4)) ∧ (∀ y0 y1, LeO (paymasterlaw12_SlotsOwn.l1 k y0 y1) (paymasterlaw12_SlotsOwn.l1 (k + 1) y0 y1))
  | 0 => ⟨fun _ _ _ _ _ r h => by simp [paymasterlaw12_SlotsOwn.j0] at h, fun _ _ _ _ _ r h => by simp [paymasterlaw12_SlotsOwn.j1] at h, fun _ _ _ _ _ r h => by simp [paymasterlaw12_SlotsOwn.l0] at h, fun _ _ r h => by simp [paymasterlaw12_SlotsOwn.l1] at h⟩
  | k + 1 => by
    obtain ⟨ih0, ih1, ih2, ih3⟩ := paymasterlaw12_SlotsOwn.mono_l k
    refine ⟨?_, ?_, ?_, ?_⟩
    · intro y0 y1 y2 y3 y4
      unfold paymasterlaw12_SlotsOwn.j0
      repeat' first
      | (with_reducible exact ih0 _ _ _ _ _)
      | (with_reducible exact ih1 _ _ _ _ _)
      | (with_reducible exact ih2 _ _ _ _ _)
      | (with_reducible exact ih3 _ _)
      | (with_reducible exact paymasterlaw10_Long.mono _ _)
      | (with_reducible exact paymasterlaw12_Long.mono _ _)
      | (with_reducible exact LeO.refl _)
      | (with_reducible exact LeO.none _)
      | (with_reducible refine LeO.ite ?_ ?_)
      | (with_reducible refine LeO.bind ?_ (fun _ => ?_))
      | exact ih0 _ _ _ _ _
      | exact ih1 _ _ _ _ _
      | exact ih2 _ _ _ _ _
      | exact ih3 _ _
      | exact paymasterlaw10_Long.mono _ _
      | exact paymasterlaw12_Long.mono _ _
      | exact LeO.none _
      | refine LeO.ite ?_ ?_
      | refine LeO.bind ?_ (fun _ => ?_)
    · intro y0 y1 y2 y3 y4
      unfold paymasterlaw12_SlotsOwn.j1
      repeat' first
      | (with_reducible exact ih0 _ _ _ _ _)
      | (with_reducible exact ih1 _ _ _ _ _)
      | (with_reducible exact ih2 _ _ _ _ _)
      | (with_reducible exact ih3 _ _)
      | (with_reducible exact paymasterlaw10_Long.mono _ _)
      | (with_reducible exact paymasterlaw12_Long.mono _ _)
      | (with_reducible exact LeO.refl _)
      | (with_reducible exact LeO.none _)
      | (with_reducible refine LeO.ite ?_ ?_)
      | (with_reducible refine LeO.bind ?_ (fun _ => ?_))
      | exact ih0 _ _ _ _ _
      | exact ih1 _ _ _ _ _
      | exact ih2 _ _ _ _ _
      | exact ih3 _ _
      | exact paymasterlaw10_Long.mono _ _
      | exact paymasterlaw12_Long.mono _ _
      | exact LeO.none _
      | refine LeO.ite ?_ ?_
      | refine LeO.bind ?_ (fun _ => ?_)
    · intro y0 y1 y2 y3 y4
      unfold paymasterlaw12_SlotsOwn.l0
      repeat' first
      | (with_reducible exact ih0 _ _ _ _ _)
      | (with_reducible exact ih1 _ _ _ _ _)
      | (with_reducible exact ih2 _ _ _ _ _)
      | (with_reducible exact ih3 _ _)
      | (with_reducible exact paymasterlaw10_Long.mono _ _)
      | (with_reducible exact paymasterlaw12_Long.mono _ _)
      | (with_reducible exact LeO.refl _)
      | (with_reducible exact LeO.none _)
      | (with_reducible refine LeO.ite ?_ ?_)
      | (with_reducible refine LeO.bind ?_ (fun _ => ?_))
      | exact ih0 _ _ _ _ _
      | exact ih1 _ _ _ _ _
      | exact ih2 _ _ _ _ _
      | exact ih3 _ _
      | exact paymasterlaw10_Long.mono _ _
      | exact paymasterlaw12_Long.mono _ _
      | exact LeO.none _
      | refine LeO.ite ?_ ?_
      | refine LeO.bind ?_ (fun _ => ?_)
    · intro y0 y1
      unfold paymasterlaw12_SlotsOwn.l1
      repeat' first
      | (with_reducible exact ih0 _ _ _ _ _)
      | (with_reducible exact ih1 _ _ _ _ _)
      | (with_reducible exact ih2 _ _ _ _ _)
      | (with_reducible exact ih3 _ _)
      | (with_reducible exact paymasterlaw10_Long.mono _ _)
      | (with_reducible exact paymasterlaw12_Long.mono _ _)
      | (with_reducible exact LeO.refl _)
      | (with_reducible exact LeO.none _)
      | (with_reducible refine LeO.ite ?_ ?_)
      | (with_reducible refine LeO.bind ?_ (fun _ => ?_))
      | exact ih0 _ _ _ _ _
      | exact ih1 _ _ _ _ _
      | exact ih2 _ _ _ _ _
      | exact ih3 _ _
      | exact paymasterlaw10_Long.mono _ _
      | exact paymasterlaw12_Long.mono _ _
      | exact LeO.none _
      | refine LeO.ite ?_ ?_
      | refine LeO.bind ?_ (fun _ => ?_)
theorem paymasterlaw12_SlotsOwn.mono : ∀ a0 a1 a2 a3 k, LeO (paymasterlaw12_SlotsOwn.f k a0 a1 a2 a3) (paymasterlaw12_SlotsOwn.f (k + 1) a0 a1 a2 a3) := by
  intro a0 a1 a2 a3 k
  obtain ⟨ih0, ih1, ih2, ih3⟩ := paymasterlaw12_SlotsOwn.mono_l k
  unfold paymasterlaw12_SlotsOwn.f
  repeat' first
      | (with_reducible exact ih0 _ _ _ _ _)
      | (with_reducible exact ih1 _ _ _ _ _)
      | (with_reducible exact ih2 _ _ _ _ _)
      | (with_reducible exact ih3 _ _)
      | (with_reducible exact paymasterlaw10_Long.mono _ _)
      | (with_reducible exact paymasterlaw12_Long.mono _ _)
      | (with_reducible exact LeO.refl _)
      | (with_reducible exact LeO.none _)
      | (with_reducible refine LeO.ite ?_ ?_)
      | (with_reducible refine LeO.bind ?_ (fun _ => ?_))
      | exact ih0 _ _ _ _ _
      | exact ih1 _ _ _ _ _
      | exact ih2 _ _ _ _ _
      | exact ih3 _ _
      | exact paymasterlaw10_Long.mono _ _
      | exact paymasterlaw12_Long.mono _ _
      | exact LeO.none _
      | refine LeO.ite ?_ ?_
      | refine LeO.bind ?_ (fun _ => ?_)
theorem strle_false {a b : List UInt8} (h : Op.bytesLess b a = true) : (Op.bytesLess a b || a == b) = false := by
  rw [Bool.or_eq_false_iff]
  constructor
  · cases e : Op.bytesLess a b with
    | false => rfl
    | true => have := Go.SortKey.bl_trans e h; rw [Go.SortKey.bl_irrefl] at this; cases this
  · rw [beq_eq_false_iff_ne]
    rintro rfl
    rw [Go.SortKey.bl_irrefl] at h; cases h
theorem strge_false {a b : List UInt8} (h : Op.bytesLess b a = true) : (Op.bytesLess a b || b == a) = false := by
  have := strle_false h
  rw [Bool.or_eq_false_iff] at this ⊢
  refine ⟨this.1, ?_⟩
  rw [beq_eq_false_iff_ne] at this ⊢
  exact fun e => this.2 e.symm
end Go.Proofs.YtfijhbfdkcajjaaGreatDoor.Pr
