-- Written by wip/tools/myprint.py (a print of the translation, turned). Not trusted: Lean checks it.
import Derived.Test.YtaeaacdjiijooaaDoorPrx0
import Derived.Test.YtaeaacdjiijooaaDoorPrx2
import Derived.Test.YtaeaacdjiijooaaDoorPrx3
import Derived.Test.YtaeaacdjiijooaaDoorPrx4
import Derived.Test.YtaeaacdjiijooaaDoorPrx14
import Derived.Test.YtaeaacdjiijooaaDoorPrx15
namespace Go.Proofs.YtaeaacdjiijooaaDoor.Pr
open Go.RowKit Go.Proofs.YtaeaacdjiijooaaDoorW.PrintWords Go.Proofs.YtaeaacdjiijooaaDoorW.PrintLast Go.Proofs.YtaeaacdjiijooaaDoorW.PrintMore
attribute [local go_sem] max2_int min2_int max_two min_two max_three min_three max_four min_four   -- for this text's walks alone
set_option linter.unusedVariables false
set_option linter.unusedSimpArgs false

/-! ### CGr: function 4 -/
mutual
def CGr.j0 : Nat → Int → Int → Int → List (S33) → Bool → Option (Bool)
 | 0, _, _, _, _, _ => none
 | k + 1, x0, x1, x2, x7, x41 => if x41 = true then (some false) else (CGr.l0 k x0 x1 x2 x7 false 0)
def CGr.l0 : Nat → Int → Int → Int → List (S33) → Bool → Int → Option (Bool)
 | 0, _, _, _, _, _, _ => none
 | k + 1, x0, x1, x2, x7, x9, x10 => if x10 < (x7.length : Int) then (if 0 ≤ x10 then (if ((rd_T33 x7 x10).f0) < 0 then (CGr.j2 k x0 x1 x2 x7 x9 x10 true) else (CGr.j2 k x0 x1 x2 x7 x9 x10 (decide (((rd_T33 x7 x10).f0) > x0)))) else (none)) else (some true)
def CGr.j2 : Nat → Int → Int → Int → List (S33) → Bool → Int → Bool → Option (Bool)
 | 0, _, _, _, _, _, _, _ => none
 | k + 1, x0, x1, x2, x7, x9, x10, x62 => if x62 = true then (some false) else (if 0 ≤ x10 then (if x10 < (x7.length : Int) then ((cover_Span.f (wrap64 (((rd_T33 x7 x10).f0) + 1)) (IntKind.u64.wrap (Int.tdiv ((rd_T33 x7 x10).f1) 2))).bind fun bt161 => (if ((rd_T33 x7 x10).f0) < x0 then (if bt161.1 ≥ x1 then (CGr.j3 k x0 x1 x2 x7 x9 x10 (decide (bt161.2 ≤ x2))) else (CGr.j3 k x0 x1 x2 x7 x9 x10 false)) else (CGr.j3 k x0 x1 x2 x7 x9 x10 false))) else (none)) else (none))
def CGr.j3 : Nat → Int → Int → Int → List (S33) → Bool → Int → Bool → Option (Bool)
 | 0, _, _, _, _, _, _, _ => none
 | k + 1, x0, x1, x2, x7, x9, x10, x96 => if x96 = true then (some false) else (if x10 > 0 then (if 0 ≤ x10 then (if x10 < (x7.length : Int) then (if 0 ≤ (wrap64 (x10 - 1)) then (if (wrap64 (x10 - 1)) < (x7.length : Int) then (if ((rd_T33 x7 x10).f0) < ((rd_T33 x7 (wrap64 (x10 - 1))).f0) then (CGr.j4 k x0 x1 x2 x7 x9 x10 true) else (if ((rd_T33 x7 x10).f0) = ((rd_T33 x7 (wrap64 (x10 - 1))).f0) then (CGr.j4 k x0 x1 x2 x7 x9 x10 ((Int.tmod ((rd_T33 x7 x10).f1) 2) == 0)) else (CGr.j4 k x0 x1 x2 x7 x9 x10 false))) else (none)) else (none)) else (none)) else (none)) else (CGr.j4 k x0 x1 x2 x7 x9 x10 false))
def CGr.j4 : Nat → Int → Int → Int → List (S33) → Bool → Int → Bool → Option (Bool)
 | 0, _, _, _, _, _, _, _ => none
 | k + 1, x0, x1, x2, x7, x9, x10, x135 => if x135 = true then (if x10 > 0 then (if 0 ≤ x10 then (if x10 < (x7.length : Int) then (if 0 ≤ (wrap64 (x10 - 1)) then (if (wrap64 (x10 - 1)) < (x7.length : Int) then (if ((rd_T33 x7 x10).f0) > ((rd_T33 x7 (wrap64 (x10 - 1))).f0) then (some false) else (CGr.l0 k x0 x1 x2 x7 true (wrap64 (x10 + 1)))) else (none)) else (none)) else (none)) else (none)) else (CGr.l0 k x0 x1 x2 x7 true (wrap64 (x10 + 1)))) else (if x10 > 0 then (if x9 = true then (if 0 ≤ x10 then (if x10 < (x7.length : Int) then (if 0 ≤ (wrap64 (x10 - 1)) then (if (wrap64 (x10 - 1)) < (x7.length : Int) then (if ((rd_T33 x7 x10).f0) > ((rd_T33 x7 (wrap64 (x10 - 1))).f0) then (some false) else (CGr.l0 k x0 x1 x2 x7 x9 (wrap64 (x10 + 1)))) else (none)) else (none)) else (none)) else (none)) else (CGr.l0 k x0 x1 x2 x7 x9 (wrap64 (x10 + 1)))) else (CGr.l0 k x0 x1 x2 x7 x9 (wrap64 (x10 + 1))))
end
def CGr.f (k : Nat) (a0 : Int) (a1 : Int) (a2 : Int) : Option (Bool) := (paymasterlaw20_awake.f k).bind fun t151 => (if t151 = true then ((cover_May.f a0 a1 a2).bind fun t152 => (if t152 = true then ((cover_Of.f k a0 a1 a2).bind fun bt153 => (if (bt153.1.length : Int) < 1 then (CGr.j0 k a0 a1 a2 bt153.1 true) else (if (bt153.1.length : Int) > (wrap64 (2 * a0)) then (CGr.j0 k a0 a1 a2 bt153.1 (decide ((bt153.1.length : Int) > 1))) else (CGr.j0 k a0 a1 a2 bt153.1 false)))) else (some true))) else (some false))
theorem CGr.mono_l : ∀ k, (∀ y0 y1 y2 y3 y4, LeO (CGr.j0 k y0 y1 y2 y3 y4) (CGr.j0 (k + 1) y0 y1 y2 y3 y4)) ∧ (∀ y0 y1 y2 y3 y4 y5, LeO (CGr.l0 k y0 y1 y2 y3 y4 y5) (CGr.l0 (k + 1) y0 y1 y2 y3 y4 y5)) ∧ (∀ y0 y1 y2 y3 y4 y5 y6, LeO (CGr.j2 k y0 y1 y2 y3 y4 y5 y6) (CGr.j2 (k + 1) y0 y1 y2 y3 y4 y5 y6)) ∧ (∀ y0 y1 y2 y3 y4 y5 y6, LeO (CGr.j3 k y0 y1 y2 y3 y4 y5 y6) (CGr.j3 (k + 1) y0 y1 y2 y3 y4 y5 y6)) ∧ (∀ y0 y1 y2 y3 y4 y5 y6, LeO (CGr.j4 k y0 y1 y2 y3 y4 y5 y6) (CGr.j4 (k + 1) y0 y1 y2 y3 y4 y5 y6))
 | 0 => ⟨fun _ _ _ _ _ r h => by simp [CGr.j0] at h, fun _ _ _ _ _ _ r h => by simp [CGr.l0] at h, fun _ _ _ _ _ _ _ r h => by simp [CGr.j2] at h, fun _ _ _ _ _ _ _ r h => by simp [CGr.j3] at h, fun _ _ _ _ _ _ _ r h => by simp [CGr.j4] at h⟩
 | k + 1 => by
  obtain ⟨ih0, ih1, ih2, ih3, ih4⟩ := CGr.mono_l k
  refine ⟨?_, ?_, ?_, ?_, ?_⟩
  ·intro y0 y1 y2 y3 y4
   unfold CGr.j0
   repeat' first
   | (with_reducible exact ih0 _ _ _ _ _)
   | (with_reducible exact ih1 _ _ _ _ _ _)
   | (with_reducible exact ih2 _ _ _ _ _ _ _)
   | (with_reducible exact ih3 _ _ _ _ _ _ _)
   | (with_reducible exact ih4 _ _ _ _ _ _ _)
   | (with_reducible exact cover_Of.mono _ _ _ _)
   | (with_reducible exact paymasterlaw20_awake.mono _)
   | (with_reducible exact LeO.refl _)
   | (with_reducible exact LeO.none _)
   | (with_reducible refine LeO.ite ?_ ?_)
   | (with_reducible refine LeO.bind ?_ (fun _ => ?_))
   | exact ih0 _ _ _ _ _
   | exact ih1 _ _ _ _ _ _
   | exact ih2 _ _ _ _ _ _ _
   | exact ih3 _ _ _ _ _ _ _
   | exact ih4 _ _ _ _ _ _ _
   | exact cover_Of.mono _ _ _ _
   | exact paymasterlaw20_awake.mono _
   | exact LeO.none _
   | refine LeO.ite ?_ ?_
   | refine LeO.bind ?_ (fun _ => ?_)
  ·intro y0 y1 y2 y3 y4 y5
   unfold CGr.l0
   repeat' first
   | (with_reducible exact ih0 _ _ _ _ _)
   | (with_reducible exact ih1 _ _ _ _ _ _)
   | (with_reducible exact ih2 _ _ _ _ _ _ _)
   | (with_reducible exact ih3 _ _ _ _ _ _ _)
   | (with_reducible exact ih4 _ _ _ _ _ _ _)
   | (with_reducible exact cover_Of.mono _ _ _ _)
   | (with_reducible exact paymasterlaw20_awake.mono _)
   | (with_reducible exact LeO.refl _)
   | (with_reducible exact LeO.none _)
   | (with_reducible refine LeO.ite ?_ ?_)
   | (with_reducible refine LeO.bind ?_ (fun _ => ?_))
   | exact ih0 _ _ _ _ _
   | exact ih1 _ _ _ _ _ _
   | exact ih2 _ _ _ _ _ _ _
   | exact ih3 _ _ _ _ _ _ _
   | exact ih4 _ _ _ _ _ _ _
   | exact cover_Of.mono _ _ _ _
   | exact paymasterlaw20_awake.mono _
   | exact LeO.none _
   | refine LeO.ite ?_ ?_
   | refine LeO.bind ?_ (fun _ => ?_)
  ·intro y0 y1 y2 y3 y4 y5 y6
   unfold CGr.j2
   repeat' first
   | (with_reducible exact ih0 _ _ _ _ _)
   | (with_reducible exact ih1 _ _ _ _ _ _)
   | (with_reducible exact ih2 _ _ _ _ _ _ _)
   | (with_reducible exact ih3 _ _ _ _ _ _ _)
   | (with_reducible exact ih4 _ _ _ _ _ _ _)
   | (with_reducible exact cover_Of.mono _ _ _ _)
   | (with_reducible exact paymasterlaw20_awake.mono _)
   | (with_reducible exact LeO.refl _)
   | (with_reducible exact LeO.none _)
   | (with_reducible refine LeO.ite ?_ ?_)
   | (with_reducible refine LeO.bind ?_ (fun _ => ?_))
   | exact ih0 _ _ _ _ _
   | exact ih1 _ _ _ _ _ _
   | exact ih2 _ _ _ _ _ _ _
   | exact ih3 _ _ _ _ _ _ _
   | exact ih4 _ _ _ _ _ _ _
   | exact cover_Of.mono _ _ _ _
   | exact paymasterlaw20_awake.mono _
   | exact LeO.none _
   | refine LeO.ite ?_ ?_
   | refine LeO.bind ?_ (fun _ => ?_)
  ·intro y0 y1 y2 y3 y4 y5 y6
   unfold CGr.j3
   repeat' first
   | (with_reducible exact ih0 _ _ _ _ _)
   | (with_reducible exact ih1 _ _ _ _ _ _)
   | (with_reducible exact ih2 _ _ _ _ _ _ _)
   | (with_reducible exact ih3 _ _ _ _ _ _ _)
   | (with_reducible exact ih4 _ _ _ _ _ _ _)
   | (with_reducible exact cover_Of.mono _ _ _ _)
   | (with_reducible exact paymasterlaw20_awake.mono _)
   | (with_reducible exact LeO.refl _)
   | (with_reducible exact LeO.none _)
   | (with_reducible refine LeO.ite ?_ ?_)
   | (with_reducible refine LeO.bind ?_ (fun _ => ?_))
   | exact ih0 _ _ _ _ _
   | exact ih1 _ _ _ _ _ _
   | exact ih2 _ _ _ _ _ _ _
   | exact ih3 _ _ _ _ _ _ _
   | exact ih4 _ _ _ _ _ _ _
   | exact cover_Of.mono _ _ _ _
   | exact paymasterlaw20_awake.mono _
   | exact LeO.none _
   | refine LeO.ite ?_ ?_
   | refine LeO.bind ?_ (fun _ => ?_)
  ·intro y0 y1 y2 y3 y4 y5 y6
   unfold CGr.j4
   repeat' first
   | (with_reducible exact ih0 _ _ _ _ _)
   | (with_reducible exact ih1 _ _ _ _ _ _)
   | (with_reducible exact ih2 _ _ _ _ _ _ _)
   | (with_reducible exact ih3 _ _ _ _ _ _ _)
   | (with_reducible exact ih4 _ _ _ _ _ _ _)
   | (with_reducible exact cover_Of.mono _ _ _ _)
   | (with_reducible exact paymasterlaw20_awake.mono _)
   | (with_reducible exact LeO.refl _)
   | (with_reducible exact LeO.none _)
   | (with_reducible refine LeO.ite ?_ ?_)
   | (with_reducible refine LeO.bind ?_ (fun _ => ?_))
   | exact ih0 _ _ _ _ _
   | exact ih1 _ _ _ _ _ _
   | exact ih2 _ _ _ _ _ _ _
   | exact ih3 _ _ _ _ _ _ _
   | exact ih4 _ _ _ _ _ _ _
   | exact cover_Of.mono _ _ _ _
   | exact paymasterlaw20_awake.mono _
   | exact LeO.none _
   | refine LeO.ite ?_ ?_
   | refine LeO.bind ?_ (fun _ => ?_)
theorem CGr.mono : ∀ a0 a1 a2 k, LeO (CGr.f k a0 a1 a2) (CGr.f (k + 1) a0 a1 a2) := by
 intro a0 a1 a2 k
 obtain ⟨ih0, ih1, ih2, ih3, ih4⟩ := CGr.mono_l k
 unfold CGr.f
 repeat' first
  | (with_reducible exact ih0 _ _ _ _ _)
  | (with_reducible exact ih1 _ _ _ _ _ _)
  | (with_reducible exact ih2 _ _ _ _ _ _ _)
  | (with_reducible exact ih3 _ _ _ _ _ _ _)
  | (with_reducible exact ih4 _ _ _ _ _ _ _)
  | (with_reducible exact cover_Of.mono _ _ _ _)
  | (with_reducible exact paymasterlaw20_awake.mono _)
  | (with_reducible exact LeO.refl _)
  | (with_reducible exact LeO.none _)
  | (with_reducible refine LeO.ite ?_ ?_)
  | (with_reducible refine LeO.bind ?_ (fun _ => ?_))
  | exact ih0 _ _ _ _ _
  | exact ih1 _ _ _ _ _ _
  | exact ih2 _ _ _ _ _ _ _
  | exact ih3 _ _ _ _ _ _ _
  | exact ih4 _ _ _ _ _ _ _
  | exact cover_Of.mono _ _ _ _
  | exact paymasterlaw20_awake.mono _
  | exact LeO.none _
  | refine LeO.ite ?_ ?_
  | refine LeO.bind ?_ (fun _ => ?_)
def CGr.Pure : Prop := ∀ (a0 : Int) (a1 : Int) (a2 : Int), (Lit.int .i64 a0).wf = true → (Lit.int .u64 a1).wf = true → (Lit.int .u64 a2).wf = true → ∃ k, CGr.f k a0 a1 a2 = some true
end Go.Proofs.YtaeaacdjiijooaaDoor.Pr
