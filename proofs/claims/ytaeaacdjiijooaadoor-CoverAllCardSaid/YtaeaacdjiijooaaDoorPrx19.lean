-- Written by wip/tools/myprint.py (a print of the translation, turned). Not trusted: Lean checks it.
import Derived.Test.YtaeaacdjiijooaaDoorPrx0
import Derived.Test.YtaeaacdjiijooaaDoorPrx2
import Derived.Test.YtaeaacdjiijooaaDoorPrx4
import Derived.Test.YtaeaacdjiijooaaDoorPrx9
import Derived.Test.YtaeaacdjiijooaaDoorPrx14
import Derived.Test.YtaeaacdjiijooaaDoorPrx15
import Derived.Test.YtaeaacdjiijooaaDoorPrx16
import Derived.Test.YtaeaacdjiijooaaDoorPrx18
namespace Go.Proofs.YtaeaacdjiijooaaDoor.Pr
open Go.RowKit Go.Proofs.YtaeaacdjiijooaaDoorW.PrintWords Go.Proofs.YtaeaacdjiijooaaDoorW.PrintLast Go.Proofs.YtaeaacdjiijooaaDoorW.PrintMore
attribute [local go_sem] max2_int min2_int max_two min_two max_three min_three max_four min_four   -- for this text's walks alone
set_option linter.unusedVariables false
set_option linter.unusedSimpArgs false

/-! ### paymasterlaw20_CoverAll: function 6 -/
mutual
def paymasterlaw20_CoverAll.j0 : Nat → Int → Int → Int → Int → List (S33) → List (S33) → Bool → Option (Bool)
  | 0, _, _, _, _, _, _, _ => none
  | k + 1, x0, x1, x2, x3, x9, x11, x82 => if x82 = true then (some false) else (paymasterlaw20_CoverAll.l0 k x0 x1 x2 x3 x9 x11 0 0)
def paymasterlaw20_CoverAll.l0 : Nat → Int → Int → Int → Int → List (S33) → List (S33) → Int → Int → Option (Bool)
  | 0, _, _, _, _, _, _, _, _ => none
  | k + 1, x0, x1, x2, x3, x9, x11, x15, x16 => if x15 < (x11.length : Int) then (paymasterlaw20_CoverAll.j2 k x0 x1 x2 x3 x9 x11 x15 x16 (decide (x16 < x1))) else (paymasterlaw20_CoverAll.j2 k x0 x1 x2 x3 x9 x11 x15 x16 false)
def paymasterlaw20_CoverAll.j2 : Nat → Int → Int → Int → Int → List (S33) → List (S33) → Int → Int → Bool → Option (Bool)
  | 0, _, _, _, _, _, _, _, _, _ => none
  | k + 1, x0, x1, x2, x3, x9, x11, x15, x16, x91 => if x91 = true then (if 0 ≤ x15 then (if x15 < (x11.length : Int) then ((cover_Span.f ((rd_T33 x11 x15).f0) ((rd_T33 x11 x15).f1)).bind fun bt282 => (if bt282.1 = x16 then (if bt282.2 ≤ bt282.1 then (some false) else (paymasterlaw20_CoverAll.l0 k x0 x1 x2 x3 x9 x11 (wrap64 (x15 + 1)) bt282.2)) else (some false))) else (none)) else (none)) else (if 0 ≤ x15 then (if x15 ≤ (x11.length : Int) then ((cover_Whole.f k x2 (x11.drop (x15 : Int).toNat)).bind fun bt288 => (if x16 = x1 then (if bt288.2 = true then ((paymasterlaw20_two.f x0).bind fun t290 => (paymasterlaw20_CoverAll.j3 k x0 x1 x2 x3 x9 x11 (bt288.1 != t290))) else (paymasterlaw20_CoverAll.j3 k x0 x1 x2 x3 x9 x11 true)) else (paymasterlaw20_CoverAll.j3 k x0 x1 x2 x3 x9 x11 true))) else (none)) else (none))
def paymasterlaw20_CoverAll.j3 : Nat → Int → Int → Int → Int → List (S33) → List (S33) → Bool → Option (Bool)
  | 0, _, _, _, _, _, _, _ => none
  | k + 1, x0, x1, x2, x3, x9, x11, x131 => if x131 = true then (some false) else (paymasterlaw20_CoverAll.l1 k x0 x1 x2 x3 x9 x11 0 0 0)
def paymasterlaw20_CoverAll.l1 : Nat → Int → Int → Int → Int → List (S33) → List (S33) → Int → Int → Int → Option (Bool)
  | 0, _, _, _, _, _, _, _, _, _ => none
  | k + 1, x0, x1, x2, x3, x9, x11, x21, x22, x23 => if x23 < (x9.length : Int) then (if 0 ≤ x23 then ((cover_Has.f ((rd_T33 x9 x23).f0) ((rd_T33 x9 x23).f1) x3).bind fun t292 => (if t292 = true then (paymasterlaw20_CoverAll.l1 k x0 x1 x2 x3 x9 x11 (wrap64 (x21 + 1)) x22 (wrap64 (x23 + 1))) else (paymasterlaw20_CoverAll.l1 k x0 x1 x2 x3 x9 x11 x21 x22 (wrap64 (x23 + 1))))) else (none)) else (paymasterlaw20_CoverAll.l2 k x0 x1 x2 x3 x11 x21 x22 0)
def paymasterlaw20_CoverAll.l2 : Nat → Int → Int → Int → Int → List (S33) → Int → Int → Int → Option (Bool)
  | 0, _, _, _, _, _, _, _, _ => none
  | k + 1, x0, x1, x2, x3, x11, x21, x22, x24 => if x24 < (x11.length : Int) then (if 0 ≤ x24 then ((cover_Has.f ((rd_T33 x11 x24).f0) ((rd_T33 x11 x24).f1) x3).bind fun t294 => (if t294 = true then (paymasterlaw20_CoverAll.l2 k x0 x1 x2 x3 x11 x21 (wrap64 (x22 + 1)) (wrap64 (x24 + 1))) else (paymasterlaw20_CoverAll.l2 k x0 x1 x2 x3 x11 x21 x22 (wrap64 (x24 + 1))))) else (none)) else (if x3 ≥ x1 then (if ((x21 == 1) == (decide (x3 < x2))) = true then (if x3 < x2 then (if ((x22 == 1) == false) = true then (if x21 ≤ 1 then (some (decide (x22 ≤ 1))) else (some false)) else (some false)) else ((paymasterlaw20_two.f x0).bind fun t295 => (if ((x22 == 1) == (decide (x3 < t295))) = true then (if x21 ≤ 1 then (some (decide (x22 ≤ 1))) else (some false)) else (some false)))) else (some false)) else (if ((x21 == 1) == false) = true then ((paymasterlaw20_two.f x0).bind fun t296 => (if ((x22 == 1) == (decide (x3 < t296))) = true then (if x21 ≤ 1 then (some (decide (x22 ≤ 1))) else (some false)) else (some false))) else (some false)))
end
def paymasterlaw20_CoverAll.f (k : Nat) (a0 : Int) (a1 : Int) (a2 : Int) (a3 : Int) : Option (Bool) := (paymasterlaw20_awake.f k).bind fun t269 => (if t269 = true then ((cover_Of.f k a0 a1 a2).bind fun bt270 => ((cover_Out.f k a0 a1 a2).bind fun bt274 => ((cover_May.f a0 a1 a2).bind fun t278 => (if t278 = true then ((cover_Whole.f k a1 bt270.1).bind fun bt279 => (if bt270.2 = 0 then (if bt274.2 = 0 then (if bt279.2 = true then (paymasterlaw20_CoverAll.j0 k a0 a1 a2 a3 bt270.1 bt274.1 (bt279.1 != a2)) else (paymasterlaw20_CoverAll.j0 k a0 a1 a2 a3 bt270.1 bt274.1 true)) else (paymasterlaw20_CoverAll.j0 k a0 a1 a2 a3 bt270.1 bt274.1 true)) else (paymasterlaw20_CoverAll.j0 k a0 a1 a2 a3 bt270.1 bt274.1 true))) else (if bt270.2 = 0 then (some false) else (if bt274.2 = bt270.2 then (some ((wrap64 ((bt270.1.length : Int) + (bt274.1.length : Int))) == 0)) else (some false))))))) else (some false))
theorem paymasterlaw20_CoverAll.mono_l : ∀ k, (∀ y0 y1 y2 y3 y4 y5 y6, LeO (paymasterlaw20_CoverAll.j0 k y0 y1 y2 y3 y4 y5 y6) (paymasterlaw20_CoverAll.j0 (k + 1) y0 y1 y2 y3 y4 y5 y6)) ∧ (∀ y0 y1 y2 y3 y4 y5 y6 y7, LeO (paymasterlaw20_CoverAll.l0 k y0 y1 y2 y3 y4 y5 y6 y7) (paymasterlaw20_CoverAll.l0 (k + 1) y0 y1 y2 y3 y4 y5 y6 y7)) ∧ (∀ y0 y1 y2 y3 y4 y5 y6 y7 y8, LeO (paymasterlaw20_CoverAll.j2 k y0 y1 y2 y3 y4 y5 y6 y7 y8) (paymasterlaw20_CoverAll.j2 (k + 1) y0 y1 y2 y3 y4 y5 y6 y7 y8)) ∧ (∀ y0 y1 y2 y3 y4 y5 y6, LeO (paymasterlaw20_CoverAll.j3 k y0 y1 y2 y3 y4 y5 y6) (paymasterlaw20_CoverAll.j3 (k + 1) y0 y1 y2 y3 y4 y5 y6)) ∧ (∀ y0 y1 y2 y3 y4 y5 y6 y7 y8, LeO (paymasterlaw20_CoverAll.l1 k y0 y1 y2 y3 y4 y5 y6 y7 y8) (paymasterlaw20_CoverAll.l1 (k + 1) y0 y1 y2 y3 y4 y5 y6 y7 y8)) ∧ (∀ y0 y1 y2 y3 y4 y5 y6 y7, LeO (paymasterlaw20_CoverAll.l2 k y0 y1 y2 y3 y4 y5 y6 y7) (paymasterlaw20_CoverAll.l2 (k + 1) y0 y1 y2 y3 y4 y5 y6 y7))
  | 0 => ⟨fun _ _ _ _ _ _ _ r h => by simp [paymasterlaw20_CoverAll.j0] at h, fun _ _ _ _ _ _ _ _ r h => by simp [paymasterlaw20_CoverAll.l0] at h, fun _ _ _ _ _ _ _ _ _ r h => by simp [paymasterlaw20_CoverAll.j2] at h, fun _ _ _ _ _ _ _ r h => by simp [paymasterlaw20_CoverAll.j3] at h, fun _ _ _ _ _ _ _ _ _ r h => by simp [paymasterlaw20_CoverAll.l1] at h, fun _ _ _ _ _ _ _ _ r h => by simp [paymasterlaw20_CoverAll.l2] at h⟩
  | k + 1 => by
    obtain ⟨ih0, ih1, ih2, ih3, ih4, ih5⟩ := paymasterlaw20_CoverAll.mono_l k
    refine ⟨?_, ?_, ?_, ?_, ?_, ?_⟩
    · intro y0 y1 y2 y3 y4 y5 y6
      unfold paymasterlaw20_CoverAll.j0
      repeat' first
      | (with_reducible exact ih0 _ _ _ _ _ _ _)
      | (with_reducible exact ih1 _ _ _ _ _ _ _ _)
      | (with_reducible exact ih2 _ _ _ _ _ _ _ _ _)
      | (with_reducible exact ih3 _ _ _ _ _ _ _)
      | (with_reducible exact ih4 _ _ _ _ _ _ _ _ _)
      | (with_reducible exact ih5 _ _ _ _ _ _ _ _)
      | (with_reducible exact cover_Of.mono _ _ _ _)
      | (with_reducible exact cover_Out.mono _ _ _ _)
      | (with_reducible exact cover_Whole.mono _ _ _)
      | (with_reducible exact paymasterlaw20_awake.mono _)
      | (with_reducible exact LeO.refl _)
      | (with_reducible exact LeO.none _)
      | (with_reducible refine LeO.ite ?_ ?_)
      | (with_reducible refine LeO.bind ?_ (fun _ => ?_))
      | exact ih0 _ _ _ _ _ _ _
      | exact ih1 _ _ _ _ _ _ _ _
      | exact ih2 _ _ _ _ _ _ _ _ _
      | exact ih3 _ _ _ _ _ _ _
      | exact ih4 _ _ _ _ _ _ _ _ _
      | exact ih5 _ _ _ _ _ _ _ _
      | exact cover_Of.mono _ _ _ _
      | exact cover_Out.mono _ _ _ _
      | exact cover_Whole.mono _ _ _
      | exact paymasterlaw20_awake.mono _
      | exact LeO.none _
      | refine LeO.ite ?_ ?_
      | refine LeO.bind ?_ (fun _ => ?_)
    · intro y0 y1 y2 y3 y4 y5 y6 y7
      unfold paymasterlaw20_CoverAll.l0
      repeat' first
      | (with_reducible exact ih0 _ _ _ _ _ _ _)
      | (with_reducible exact ih1 _ _ _ _ _ _ _ _)
      | (with_reducible exact ih2 _ _ _ _ _ _ _ _ _)
      | (with_reducible exact ih3 _ _ _ _ _ _ _)
      | (with_reducible exact ih4 _ _ _ _ _ _ _ _ _)
      | (with_reducible exact ih5 _ _ _ _ _ _ _ _)
      | (with_reducible exact cover_Of.mono _ _ _ _)
      | (with_reducible exact cover_Out.mono _ _ _ _)
      | (with_reducible exact cover_Whole.mono _ _ _)
      | (with_reducible exact paymasterlaw20_awake.mono _)
      | (with_reducible exact LeO.refl _)
      | (with_reducible exact LeO.none _)
      | (with_reducible refine LeO.ite ?_ ?_)
      | (with_reducible refine LeO.bind ?_ (fun _ => ?_))
      | exact ih0 _ _ _ _ _ _ _
      | exact ih1 _ _ _ _ _ _ _ _
      | exact ih2 _ _ _ _ _ _ _ _ _
      | exact ih3 _ _ _ _ _ _ _
      | exact ih4 _ _ _ _ _ _ _ _ _
      | exact ih5 _ _ _ _ _ _ _ _
      | exact cover_Of.mono _ _ _ _
      | exact cover_Out.mono _ _ _ _
      | exact cover_Whole.mono _ _ _
      | exact paymasterlaw20_awake.mono _
      | exact LeO.none _
      | refine LeO.ite ?_ ?_
      | refine LeO.bind ?_ (fun _ => ?_)
    · intro y0 y1 y2 y3 y4 y5 y6 y7 y8
      unfold paymasterlaw20_CoverAll.j2
      repeat' first
      | (with_reducible exact ih0 _ _ _ _ _ _ _)
      | (with_reducible exact ih1 _ _ _ _ _ _ _ _)
      | (with_reducible exact ih2 _ _ _ _ _ _ _ _ _)
      | (with_reducible exact ih3 _ _ _ _ _ _ _)
      | (with_reducible exact ih4 _ _ _ _ _ _ _ _ _)
      | (with_reducible exact ih5 _ _ _ _ _ _ _ _)
      | (with_reducible exact cover_Of.mono _ _ _ _)
      | (with_reducible exact cover_Out.mono _ _ _ _)
      | (with_reducible exact cover_Whole.mono _ _ _)
      | (with_reducible exact paymasterlaw20_awake.mono _)
      | (with_reducible exact LeO.refl _)
      | (with_reducible exact LeO.none _)
      | (with_reducible refine LeO.ite ?_ ?_)
      | (with_reducible refine LeO.bind ?_ (fun _ => ?_))
      | exact ih0 _ _ _ _ _ _ _
      | exact ih1 _ _ _ _ _ _ _ _
      | exact ih2 _ _ _ _ _ _ _ _ _
      | exact ih3 _ _ _ _ _ _ _
      | exact ih4 _ _ _ _ _ _ _ _ _
      | exact ih5 _ _ _ _ _ _ _ _
      | exact cover_Of.mono _ _ _ _
      | exact cover_Out.mono _ _ _ _
      | exact cover_Whole.mono _ _ _
      | exact paymasterlaw20_awake.mono _
      | exact LeO.none _
      | refine LeO.ite ?_ ?_
      | refine LeO.bind ?_ (fun _ => ?_)
    · intro y0 y1 y2 y3 y4 y5 y6
      unfold paymasterlaw20_CoverAll.j3
      repeat' first
      | (with_reducible exact ih0 _ _ _ _ _ _ _)
      | (with_reducible exact ih1 _ _ _ _ _ _ _ _)
      | (with_reducible exact ih2 _ _ _ _ _ _ _ _ _)
      | (with_reducible exact ih3 _ _ _ _ _ _ _)
      | (with_reducible exact ih4 _ _ _ _ _ _ _ _ _)
      | (with_reducible exact ih5 _ _ _ _ _ _ _ _)
      | (with_reducible exact cover_Of.mono _ _ _ _)
      | (with_reducible exact cover_Out.mono _ _ _ _)
      | (with_reducible exact cover_Whole.mono _ _ _)
      | (with_reducible exact paymasterlaw20_awake.mono _)
      | (with_reducible exact LeO.refl _)
      | (with_reducible exact LeO.none _)
      | (with_reducible refine LeO.ite ?_ ?_)
      | (with_reducible refine LeO.bind ?_ (fun _ => ?_))
      | exact ih0 _ _ _ _ _ _ _
      | exact ih1 _ _ _ _ _ _ _ _
      | exact ih2 _ _ _ _ _ _ _ _ _
      | exact ih3 _ _ _ _ _ _ _
      | exact ih4 _ _ _ _ _ _ _ _ _
      | exact ih5 _ _ _ _ _ _ _ _
      | exact cover_Of.mono _ _ _ _
      | exact cover_Out.mono _ _ _ _
      | exact cover_Whole.mono _ _ _
      | exact paymasterlaw20_awake.mono _
      | exact LeO.none _
      | refine LeO.ite ?_ ?_
      | refine LeO.bind ?_ (fun _ => ?_)
    · intro y0 y1 y2 y3 y4 y5 y6 y7 y8
      unfold paymasterlaw20_CoverAll.l1
      repeat' first
      | (with_reducible exact ih0 _ _ _ _ _ _ _)
      | (with_reducible exact ih1 _ _ _ _ _ _ _ _)
      | (with_reducible exact ih2 _ _ _ _ _ _ _ _ _)
      | (with_reducible exact ih3 _ _ _ _ _ _ _)
      | (with_reducible exact ih4 _ _ _ _ _ _ _ _ _)
      | (with_reducible exact ih5 _ _ _ _ _ _ _ _)
      | (with_reducible exact cover_Of.mono _ _ _ _)
      | (with_reducible exact cover_Out.mono _ _ _ _)
      | (with_reducible exact cover_Whole.mono _ _ _)
      | (with_reducible exact paymasterlaw20_awake.mono _)
      | (with_reducible exact LeO.refl _)
      | (with_reducible exact LeO.none _)
      | (with_reducible refine LeO.ite ?_ ?_)
      | (with_reducible refine LeO.bind ?_ (fun _ => ?_))
      | exact ih0 _ _ _ _ _ _ _
      | exact ih1 _ _ _ _ _ _ _ _
      | exact ih2 _ _ _ _ _ _ _ _ _
      | exact ih3 _ _ _ _ _ _ _
      | exact ih4 _ _ _ _ _ _ _ _ _
      | exact ih5 _ _ _ _ _ _ _ _
      | exact cover_Of.mono _ _ _ _
      | exact cover_Out.mono _ _ _ _
      | exact cover_Whole.mono _ _ _
      | exact paymasterlaw20_awake.mono _
      | exact LeO.none _
      | refine LeO.ite ?_ ?_
      | refine LeO.bind ?_ (fun _ => ?_)
    · intro y0 y1 y2 y3 y4 y5 y6 y7
      unfold paymasterlaw20_CoverAll.l2
      repeat' first
      | (with_reducible exact ih0 _ _ _ _ _ _ _)
      | (with_reducible exact ih1 _ _ _ _ _ _ _ _)
      | (with_reducible exact ih2 _ _ _ _ _ _ _ _ _)
      | (with_reducible exact ih3 _ _ _ _ _ _ _)
      | (with_reducible exact ih4 _ _ _ _ _ _ _ _ _)
      | (with_reducible exact ih5 _ _ _ _ _ _ _ _)
      | (with_reducible exact cover_Of.mono _ _ _ _)
      | (with_reducible exact cover_Out.mono _ _ _ _)
      | (with_reducible exact cover_Whole.mono _ _ _)
      | (with_reducible exact paymasterlaw20_awake.mono _)
      | (with_reducible exact LeO.refl _)
      | (with_reducible exact LeO.none _)
      | (with_reducible refine LeO.ite ?_ ?_)
      | (with_reducible refine LeO.bind ?_ (fun _ => ?_))
      | exact ih0 _ _ _ _ _ _ _
      | exact ih1 _ _ _ _ _ _ _ _
      | exact ih2 _ _ _ _ _ _ _ _ _
      | exact ih3 _ _ _ _ _ _ _
      | exact ih4 _ _ _ _ _ _ _ _ _
      | exact ih5 _ _ _ _ _ _ _ _
      | exact cover_Of.mono _ _ _ _
      | exact cover_Out.mono _ _ _ _
      | exact cover_Whole.mono _ _ _
      | exact paymasterlaw20_awake.mono _
      | exact LeO.none _
      | refine LeO.ite ?_ ?_
      | refine LeO.bind ?_ (fun _ => ?_)
theorem paymasterlaw20_CoverAll.mono : ∀ a0 a1 a2 a3 k, LeO (paymasterlaw20_CoverAll.f k a0 a1 a2 a3) (paymasterlaw20_CoverAll.f (k + 1) a0 a1 a2 a3) := by
  intro a0 a1 a2 a3 k
  obtain ⟨ih0, ih1, ih2, ih3, ih4, ih5⟩ := paymasterlaw20_CoverAll.mono_l k
  unfold paymasterlaw20_CoverAll.f
  repeat' first
      | (with_reducible exact ih0 _ _ _ _ _ _ _)
      | (with_reducible exact ih1 _ _ _ _ _ _ _ _)
      | (with_reducible exact ih2 _ _ _ _ _ _ _ _ _)
      | (with_reducible exact ih3 _ _ _ _ _ _ _)
      | (with_reducible exact ih4 _ _ _ _ _ _ _ _ _)
      | (with_reducible exact ih5 _ _ _ _ _ _ _ _)
      | (with_reducible exact cover_Of.mono _ _ _ _)
      | (with_reducible exact cover_Out.mono _ _ _ _)
      | (with_reducible exact cover_Whole.mono _ _ _)
      | (with_reducible exact paymasterlaw20_awake.mono _)
      | (with_reducible exact LeO.refl _)
      | (with_reducible exact LeO.none _)
      | (with_reducible refine LeO.ite ?_ ?_)
      | (with_reducible refine LeO.bind ?_ (fun _ => ?_))
      | exact ih0 _ _ _ _ _ _ _
      | exact ih1 _ _ _ _ _ _ _ _
      | exact ih2 _ _ _ _ _ _ _ _ _
      | exact ih3 _ _ _ _ _ _ _
      | exact ih4 _ _ _ _ _ _ _ _ _
      | exact ih5 _ _ _ _ _ _ _ _
      | exact cover_Of.mono _ _ _ _
      | exact cover_Out.mono _ _ _ _
      | exact cover_Whole.mono _ _ _
      | exact paymasterlaw20_awake.mono _
      | exact LeO.none _
      | refine LeO.ite ?_ ?_
      | refine LeO.bind ?_ (fun _ => ?_)
set_option maxHeartbeats 8000000 in
set_option maxRecDepth 100000 in
theorem paymasterlaw20_CoverAll.calls (k : Nat) (a0 : Int) (a1 : Int) (a2 : Int) (a3 : Int) (r : Bool) (w : World) (hGT : GTab w) (h : paymasterlaw20_CoverAll.f k a0 a1 a2 a3 = some r) :
    Calls Tryd.prog 6 #[.int .i64 a0, .int .u64 a1, .int .u64 a2, .int .u64 a3] w fun e w' => e = .returned (.bool r) ∧ Below w.heap.size w w' := by
  have hu33 := Tryd.underlying33
  have HB := Aside0.mk (Below.refl w.heap.size w)
  have HG := Aside0.mk hGT
  clear hGT
  have H : ((paymasterlaw20_awake.f k).bind fun t269 => (if t269 = true then ((cover_Of.f k a0 a1 a2).bind fun bt270 => ((cover_Out.f k a0 a1 a2).bind fun bt274 => ((cover_May.f a0 a1 a2).bind fun t278 => (if t278 = true then ((cover_Whole.f k a1 bt270.1).bind fun bt279 => (if bt270.2 = 0 then (if bt274.2 = 0 then (if bt279.2 = true then (paymasterlaw20_CoverAll.j0 k a0 a1 a2 a3 bt270.1 bt274.1 (bt279.1 != a2)) else (paymasterlaw20_CoverAll.j0 k a0 a1 a2 a3 bt270.1 bt274.1 true)) else (paymasterlaw20_CoverAll.j0 k a0 a1 a2 a3 bt270.1 bt274.1 true)) else (paymasterlaw20_CoverAll.j0 k a0 a1 a2 a3 bt270.1 bt274.1 true))) else (if bt270.2 = 0 then (some false) else (if bt274.2 = bt270.2 then (some ((wrap64 ((bt270.1.length : Int) + (bt274.1.length : Int))) == 0)) else (some false))))))) else (some false))) = some r := h
  clear h
  replace H := Option.bind_eq_some_iff.mp H
  obtain ⟨t269, A50, H⟩ := H
  replace H : (if t269 = true then ((cover_Of.f k a0 a1 a2).bind fun bt270 => ((cover_Out.f k a0 a1 a2).bind fun bt274 => ((cover_May.f a0 a1 a2).bind fun t278 => (if t278 = true then ((cover_Whole.f k a1 bt270.1).bind fun bt279 => (if bt270.2 = 0 then (if bt274.2 = 0 then (if bt279.2 = true then (paymasterlaw20_CoverAll.j0 k a0 a1 a2 a3 bt270.1 bt274.1 (bt279.1 != a2)) else (paymasterlaw20_CoverAll.j0 k a0 a1 a2 a3 bt270.1 bt274.1 true)) else (paymasterlaw20_CoverAll.j0 k a0 a1 a2 a3 bt270.1 bt274.1 true)) else (paymasterlaw20_CoverAll.j0 k a0 a1 a2 a3 bt270.1 bt274.1 true))) else (if bt270.2 = 0 then (some false) else (if bt274.2 = bt270.2 then (some ((wrap64 ((bt270.1.length : Int) + (bt274.1.length : Int))) == 0)) else (some false))))))) else (some false)) = some r := H
  have A5 := Aside0.mk A50
  clear A50
  by_cases c6 : t269 = true
  · subst c6
    have H1 : ((cover_Of.f k a0 a1 a2).bind fun bt270 => ((cover_Out.f k a0 a1 a2).bind fun bt274 => ((cover_May.f a0 a1 a2).bind fun t278 => (if t278 = true then ((cover_Whole.f k a1 bt270.1).bind fun bt279 => (if bt270.2 = 0 then (if bt274.2 = 0 then (if bt279.2 = true then (paymasterlaw20_CoverAll.j0 k a0 a1 a2 a3 bt270.1 bt274.1 (bt279.1 != a2)) else (paymasterlaw20_CoverAll.j0 k a0 a1 a2 a3 bt270.1 bt274.1 true)) else (paymasterlaw20_CoverAll.j0 k a0 a1 a2 a3 bt270.1 bt274.1 true)) else (paymasterlaw20_CoverAll.j0 k a0 a1 a2 a3 bt270.1 bt274.1 true))) else (if bt270.2 = 0 then (some false) else (if bt274.2 = bt270.2 then (some ((wrap64 ((bt270.1.length : Int) + (bt274.1.length : Int))) == 0)) else (some false))))))) = some r := by rw [if_pos rfl] at H; exact H
    clear H
    have H := H1
    clear H1
    replace H := Option.bind_eq_some_iff.mp H
    obtain ⟨⟨t270, t271⟩, A70, H⟩ := H
    replace H : ((cover_Out.f k a0 a1 a2).bind fun bt274 => ((cover_May.f a0 a1 a2).bind fun t278 => (if t278 = true then ((cover_Whole.f k a1 t270).bind fun bt279 => (if t271 = 0 then (if bt274.2 = 0 then (if bt279.2 = true then (paymasterlaw20_CoverAll.j0 k a0 a1 a2 a3 t270 bt274.1 (bt279.1 != a2)) else (paymasterlaw20_CoverAll.j0 k a0 a1 a2 a3 t270 bt274.1 true)) else (paymasterlaw20_CoverAll.j0 k a0 a1 a2 a3 t270 bt274.1 true)) else (paymasterlaw20_CoverAll.j0 k a0 a1 a2 a3 t270 bt274.1 true))) else (if t271 = 0 then (some false) else (if bt274.2 = t271 then (some ((wrap64 ((t270.length : Int) + (bt274.1.length : Int))) == 0)) else (some false)))))) = some r := H
    have A7 := Aside0.mk A70
    clear A70
    replace H := Option.bind_eq_some_iff.mp H
    obtain ⟨⟨t274, t275⟩, A80, H⟩ := H
    replace H : ((cover_May.f a0 a1 a2).bind fun t278 => (if t278 = true then ((cover_Whole.f k a1 t270).bind fun bt279 => (if t271 = 0 then (if t275 = 0 then (if bt279.2 = true then (paymasterlaw20_CoverAll.j0 k a0 a1 a2 a3 t270 t274 (bt279.1 != a2)) else (paymasterlaw20_CoverAll.j0 k a0 a1 a2 a3 t270 t274 true)) else (paymasterlaw20_CoverAll.j0 k a0 a1 a2 a3 t270 t274 true)) else (paymasterlaw20_CoverAll.j0 k a0 a1 a2 a3 t270 t274 true))) else (if t271 = 0 then (some false) else (if t275 = t271 then (some ((wrap64 ((t270.length : Int) + (t274.length : Int))) == 0)) else (some false))))) = some r := H
    have A8 := Aside0.mk A80
    clear A80
    replace H := Option.bind_eq_some_iff.mp H
    obtain ⟨t278, A90, H⟩ := H
    replace H : (if t278 = true then ((cover_Whole.f k a1 t270).bind fun bt279 => (if t271 = 0 then (if t275 = 0 then (if bt279.2 = true then (paymasterlaw20_CoverAll.j0 k a0 a1 a2 a3 t270 t274 (bt279.1 != a2)) else (paymasterlaw20_CoverAll.j0 k a0 a1 a2 a3 t270 t274 true)) else (paymasterlaw20_CoverAll.j0 k a0 a1 a2 a3 t270 t274 true)) else (paymasterlaw20_CoverAll.j0 k a0 a1 a2 a3 t270 t274 true))) else (if t271 = 0 then (some false) else (if t275 = t271 then (some ((wrap64 ((t270.length : Int) + (t274.length : Int))) == 0)) else (some false)))) = some r := H
    have A9 := Aside0.mk A90
    clear A90
    by_cases c10 : t278 = true
    · subst c10
      have H1 : ((cover_Whole.f k a1 t270).bind fun bt279 => (if t271 = 0 then (if t275 = 0 then (if bt279.2 = true then (paymasterlaw20_CoverAll.j0 k a0 a1 a2 a3 t270 t274 (bt279.1 != a2)) else (paymasterlaw20_CoverAll.j0 k a0 a1 a2 a3 t270 t274 true)) else (paymasterlaw20_CoverAll.j0 k a0 a1 a2 a3 t270 t274 true)) else (paymasterlaw20_CoverAll.j0 k a0 a1 a2 a3 t270 t274 true))) = some r := by rw [if_pos rfl] at H; exact H
      clear H
      have H := H1
      clear H1
      replace H := Option.bind_eq_some_iff.mp H
      obtain ⟨⟨t279, t280⟩, A110, H⟩ := H
      replace H : (if t271 = 0 then (if t275 = 0 then (if t280 = true then (paymasterlaw20_CoverAll.j0 k a0 a1 a2 a3 t270 t274 (t279 != a2)) else (paymasterlaw20_CoverAll.j0 k a0 a1 a2 a3 t270 t274 true)) else (paymasterlaw20_CoverAll.j0 k a0 a1 a2 a3 t270 t274 true)) else (paymasterlaw20_CoverAll.j0 k a0 a1 a2 a3 t270 t274 true)) = some r := H
      have A11 := Aside0.mk A110
      clear A110
      have HC12 := Aside0.mk H
      clear H
      go_enter Tryd.func6, Tryd.ntmps6
      go_upto_region 8 with (first | ((with_reducible refine gate_callee (f := 14) rfl ?_); refine goesL_ (some 26) rfl rfl Tryd.func14 (by kernel_rfl) rfl #[] rfl (by (try simp only [List.map_toArray, List.map_cons, List.map_nil]); first | done | rfl | (simp only [List.length_drop, List.length_take]; rfl)) ?_; (with_reducible refine (paymasterlaw20_awake.calls k  true _ ?side1 A5.out).mono ?_); (case side1 => first | exact HG.out | exact GTab.below (w := w) HG.out (by repeat (first | (with_reducible first | exact HB.out | apply below_alloc | apply pw_below_drewN | apply below_drew1) | exact HB.out))); rintro e w13 ⟨rfl, hb⟩; refine ⟨_, rfl, ?_⟩; have n0_ := Aside0.mk (below_step (by repeat (first | (with_reducible first | exact HB.out | apply below_alloc | apply pw_below_drewN | apply below_drew1) | exact HB.out)) hb); clear HB; have HB := n0_; clear n0_; (try clear hb); (try clear hb2); (try clear hk); (try clear hi)) | ((with_reducible refine gate_callee (f := 7) rfl ?_); refine goesL_ (some 32) rfl rfl Tryd.func7 (by kernel_rfl) rfl #[.int .i64 a0, .int .u64 a1, .int .u64 a2] rfl (by (try simp only [List.map_toArray, List.map_cons, List.map_nil]); first | done | rfl | (simp only [List.length_drop, List.length_take]; rfl)) ?_; (with_reducible refine (cover_Of.calls k a0 a1 a2 t270 t271 _ ?side1 A7.out).mono ?_); (case side1 => first | exact HG.out | exact GTab.below (w := w) HG.out (by repeat (first | (with_reducible first | exact HB.out | apply below_alloc | apply pw_below_drewN | apply below_drew1) | exact HB.out))); rintro e w14 ⟨v272, rfl, ho0, hb⟩; refine ⟨_, rfl, ?_⟩; have n0_ := Aside0.mk (Kd.R_lower ho0 (below_size (by repeat (first | (with_reducible first | exact HB.out | apply below_alloc | apply pw_below_drewN | apply below_drew1) | exact HB.out)))); have n1_ := Aside0.mk (below_step (by repeat (first | (with_reducible first | exact HB.out | apply below_alloc | apply pw_below_drewN | apply below_drew1) | exact HB.out)) hb); clear HB; have HO273 := n0_; have HB := n1_; clear n0_ n1_; (try clear hb); (try clear hb2); (try clear hk); (try clear hi); (try clear ho0)) | ((with_reducible refine gate_callee (f := 9) rfl ?_); refine goesL_ (some 39) rfl rfl Tryd.func9 (by kernel_rfl) rfl #[.int .i64 a0, .int .u64 a1, .int .u64 a2] rfl (by (try simp only [List.map_toArray, List.map_cons, List.map_nil]); first | done | rfl | (simp only [List.length_drop, List.length_take]; rfl)) ?_; (with_reducible refine (cover_Out.calls k a0 a1 a2 t274 t275 _ ?side1 A8.out).mono ?_); (case side1 => first | exact HG.out | exact GTab.below (w := w) HG.out (by repeat (first | (with_reducible first | exact HB.out | apply below_alloc | apply pw_below_drewN | apply below_drew1) | exact HB.out))); rintro e w15 ⟨v276, rfl, ho0, hb⟩; refine ⟨_, rfl, ?_⟩; have n0_ := Aside0.mk (Kd.R_elder' (by (with_reducible repeat (first | apply Kd.R_alloc | apply Kd.R_drewN | apply Kd.R_drew)); exact HO273.out) (Kd.R_base ho0) hb); have n1_ := Aside0.mk (Kd.R_lower (Kd.R_new' ho0 (Kd.R_lt (by (with_reducible repeat (first | apply Kd.R_alloc | apply Kd.R_drewN | apply Kd.R_drew)); exact HO273.out))) (below_size (by repeat (first | (with_reducible first | exact HB.out | apply below_alloc | apply pw_below_drewN | apply below_drew1) | exact HB.out)))); have n2_ := Aside0.mk (below_step (by repeat (first | (with_reducible first | exact HB.out | apply below_alloc | apply pw_below_drewN | apply below_drew1) | exact HB.out)) hb); clear HO273; clear HB; have HO273 := n0_; have HO277 := n1_; have HB := n2_; clear n0_ n1_ n2_; (try clear hb); (try clear hb2); (try clear hk); (try clear hi); (try clear ho0)) | ((with_reducible refine gate_callee (f := 12) rfl ?_); refine goesL_ (some 45) rfl rfl Tryd.func12 (by kernel_rfl) rfl #[.int .i64 a0, .int .u64 a1, .int .u64 a2] rfl (by (try simp only [List.map_toArray, List.map_cons, List.map_nil]); first | done | rfl | (simp only [List.length_drop, List.length_take]; rfl)) ?_; (with_reducible refine (cover_May.calls a0 a1 a2 true _ A9.out).mono ?_); rintro e w' ⟨rfl, ⟨nd, rfl⟩⟩; refine ⟨_, rfl, ?_⟩; obtain ⟨Ao16, co16, eo16⟩ := Kd.R_slice HO273.out; subst eo16) | ((with_reducible refine gate_callee (f := 19) rfl ?_); refine goesL_ (some 65) rfl rfl Tryd.func19 (by kernel_rfl) rfl #[.int .u64 a1, .slice Ao16 t270.length co16] rfl (by (try simp only [List.map_toArray, List.map_cons, List.map_nil]); first | done | rfl | (simp only [List.length_drop, List.length_take]; rfl)) ?_; (with_reducible refine (cover_Whole.calls k a1 _ _ t270 t279 t280 _ ?side1 ?side2 A11.out).mono ?_); (case side1 => repeat (first | exact (Kd.R_reads' HO273.out).2.2 | (with_reducible refine Kd.C_alloc ?_ _) | (with_reducible refine Kd.C_drewN ?_ _) | (with_reducible refine Kd.C_drew ?_))); (case side2 => exact (Kd.R_reads' HO273.out).2.1); rintro e w17 ⟨rfl, hb⟩; refine ⟨_, rfl, ?_⟩; have n0_ := Aside0.mk (Kd.R_below (by (with_reducible repeat (first | apply Kd.R_alloc | apply Kd.R_drewN | apply Kd.R_drew)); exact HO273.out) hb); have n1_ := Aside0.mk (Kd.R_below (by (with_reducible repeat (first | apply Kd.R_alloc | apply Kd.R_drewN | apply Kd.R_drew)); exact HO277.out) hb); have n2_ := Aside0.mk (below_step (by repeat (first | (with_reducible first | exact HB.out | apply below_alloc | apply pw_below_drewN | apply below_drew1) | exact HB.out)) hb); clear HO273; clear HO277; clear HB; have HO273 := n0_; have HO277 := n1_; have HB := n2_; clear n0_ n1_ n2_; (try clear hb); (try clear hb2); (try clear hk); (try clear hi)))
      (try simp only [Act.put, List.setIfInBounds_toArray, List.set_cons_zero, List.set_cons_succ])
      go_cut [82] (fun v82 wc => ∃ (kq : Nat) (x82_11 : Bool), v82 = .bool x82_11 ∧ Aside0 (paymasterlaw20_CoverAll.j0 kq a0 a1 a2 a3 t270 t274 x82_11 = some r) ∧ Aside0 (kq ≤ k) ∧ Aside0 (Kd.R k33 33 wc w.heap.size (fun k_ => some k_ ≠ (v276 : Value).ownBlock) (.slice Ao16 t270.length co16) t270) ∧ Aside0 (Kd.R k33 33 wc w.heap.size (fun k_ => some k_ ≠ ((.slice Ao16 t270.length co16) : Value).ownBlock) v276 t274) ∧ Aside0 (Below w.heap.size w wc))
      case first =>
        have H := HC12.out
        clear HC12
        by_cases c18 : t271 = 0
        · rw [if_pos c18] at H
          have c18b0 : (t271 == 0) = true := beq_iff_eq.mpr c18
          have c18b1 : (t271 != 0) = false := bne_eq_false_iff_eq.mpr c18
          clear c18
          (first | rw [c18b0] | (simp only [i64_w, i32_w]; rw [c18b0]) | skip)
          by_cases c19 : t275 = 0
          · rw [if_pos c19] at H
            have c19b0 : (t275 == 0) = true := beq_iff_eq.mpr c19
            have c19b1 : (t275 != 0) = false := bne_eq_false_iff_eq.mpr c19
            clear c19
            by_cases c20 : t280 = true
            · subst c20
              have H1 : (paymasterlaw20_CoverAll.j0 k a0 a1 a2 a3 t270 t274 (t279 != a2)) = some r := by rw [if_pos rfl] at H; exact H
              clear H
              have H := H1
              clear H1
              have H' := Aside0.mk H
              clear H
              go_wp2
              go_meet
              case rel => exact ⟨_, ((t279 != a2)), (by first | rfl | (simp; done) | (simp [*]; done)), H', ⟨by first | omega | exact Nat.le_refl _⟩, ⟨by (with_reducible repeat (first | apply Kd.R_alloc | apply Kd.R_drewN | apply Kd.R_drew)); exact Kd.R_mono HO273.out (fun _ hk => hk.2)⟩, ⟨by (with_reducible repeat (first | apply Kd.R_alloc | apply Kd.R_drewN | apply Kd.R_drew)); exact Kd.R_mono HO277.out (fun _ hk => hk.2)⟩, ⟨by repeat (first | (with_reducible first | exact HB.out | apply below_alloc | apply pw_below_drewN | apply below_drew1) | exact HB.out)⟩⟩
            · replace c20 := Bool.eq_false_iff.mpr c20
              subst c20
              have H1 : (paymasterlaw20_CoverAll.j0 k a0 a1 a2 a3 t270 t274 true) = some r := by rw [if_neg (show ¬ (false = true) by decide)] at H; exact H
              clear H
              have H := H1
              clear H1
              have H' := Aside0.mk H
              clear H
              go_wp2
              go_meet
              case rel => exact ⟨_, (true), (by first | rfl | (simp; done) | (simp [*]; done)), H', ⟨by first | omega | exact Nat.le_refl _⟩, ⟨by (with_reducible repeat (first | apply Kd.R_alloc | apply Kd.R_drewN | apply Kd.R_drew)); exact Kd.R_mono HO273.out (fun _ hk => hk.2)⟩, ⟨by (with_reducible repeat (first | apply Kd.R_alloc | apply Kd.R_drewN | apply Kd.R_drew)); exact Kd.R_mono HO277.out (fun _ hk => hk.2)⟩, ⟨by repeat (first | (with_reducible first | exact HB.out | apply below_alloc | apply pw_below_drewN | apply below_drew1) | exact HB.out)⟩⟩
          · rw [if_neg c19] at H
            have c19b0 : (t275 == 0) = false := beq_eq_false_iff_ne.mpr c19
            have c19b1 : (t275 != 0) = true := bne_iff_ne.mpr c19
            have H' := Aside0.mk H
            clear H
            go_wp2
            go_meet
            case rel => exact ⟨_, (true), (by first | rfl | (simp; done) | (simp [*]; done)), H', ⟨by first | omega | exact Nat.le_refl _⟩, ⟨by (with_reducible repeat (first | apply Kd.R_alloc | apply Kd.R_drewN | apply Kd.R_drew)); exact Kd.R_mono HO273.out (fun _ hk => hk.2)⟩, ⟨by (with_reducible repeat (first | apply Kd.R_alloc | apply Kd.R_drewN | apply Kd.R_drew)); exact Kd.R_mono HO277.out (fun _ hk => hk.2)⟩, ⟨by repeat (first | (with_reducible first | exact HB.out | apply below_alloc | apply pw_below_drewN | apply below_drew1) | exact HB.out)⟩⟩
        · rw [if_neg c18] at H
          have c18b0 : (t271 == 0) = false := beq_eq_false_iff_ne.mpr c18
          have c18b1 : (t271 != 0) = true := bne_iff_ne.mpr c18
          (first | rw [c18b0] | (simp only [i64_w, i32_w]; rw [c18b0]) | skip)
          have H' := Aside0.mk H
          clear H
          go_wp2
          go_meet
          case rel => exact ⟨_, (true), (by first | rfl | (simp; done) | (simp [*]; done)), H', ⟨by first | omega | exact Nat.le_refl _⟩, ⟨by (with_reducible repeat (first | apply Kd.R_alloc | apply Kd.R_drewN | apply Kd.R_drew)); exact Kd.R_mono HO273.out (fun _ hk => hk.2)⟩, ⟨by (with_reducible repeat (first | apply Kd.R_alloc | apply Kd.R_drewN | apply Kd.R_drew)); exact Kd.R_mono HO277.out (fun _ hk => hk.2)⟩, ⟨by repeat (first | (with_reducible first | exact HB.out | apply below_alloc | apply pw_below_drewN | apply below_drew1) | exact HB.out)⟩⟩
      case rest =>
        clear HC12
        try clear c1
        try clear c2
        try clear p2
        try clear c6
        try clear p6
        try clear c7
        try clear c9
        try clear c10
        try clear c12
        try clear c14
        try clear c18
        try clear c18b0
        try clear c18b1
        try clear c19
        try clear c19b0
        try clear c19b1
        try clear c20
        obtain ⟨kq, x82_11, rfl, HA, HJ11, HO_9, HO_11, HB⟩ := hcut
        cases kq with
        | zero => exact absurd HA.out (by simp [paymasterlaw20_CoverAll.j0])
        | succ kj11 =>
          have H := HA.out
          clear HA
          simp only [paymasterlaw20_CoverAll.j0] at H
          by_cases c21 : x82_11 = true
          · subst c21
            have H1 : (some false) = some r := by rw [if_pos rfl] at H; exact H
            clear H
            have H := H1
            clear H1
            obtain rfl := Option.some.inj H
            go_wp2
            go_ret
            exact ⟨by first | rfl | (simp [errW_none, errW_some] <;> rfl) | (simp [*, errW_none, errW_some] <;> rfl), by repeat (first | (with_reducible first | exact HB.out | apply below_alloc | apply pw_below_drewN | apply below_drew1) | exact HB.out)⟩
          · replace c21 := Bool.eq_false_iff.mpr c21
            subst c21
            have H1 : (paymasterlaw20_CoverAll.l0 kj11 a0 a1 a2 a3 t270 t274 0 0) = some r := by rw [if_neg (show ¬ (false = true) by decide)] at H; exact H
            clear H
            have H := H1
            clear H1
            have H' := Aside0.mk H
            clear H
            go_wp2
            go_loopg [15, 16] kj11 (fun kq v15 v16 w' => ∃ (x15_2 : Int) (x16_2 : Int), v15 = .int .i64 x15_2 ∧ v16 = .int .u64 x16_2 ∧ Aside0 (paymasterlaw20_CoverAll.l0 kq a0 a1 a2 a3 t270 t274 x15_2 x16_2 = some r) ∧ Aside0 (kq ≤ kj11) ∧ Aside0 (Kd.R k33 33 w' w.heap.size (fun k_ => some k_ ≠ (v276 : Value).ownBlock) (.slice Ao16 t270.length co16) t270) ∧ Aside0 (Kd.R k33 33 w' w.heap.size (fun k_ => some k_ ≠ ((.slice Ao16 t270.length co16) : Value).ownBlock) v276 t274) ∧ Aside0 (Below w.heap.size w w'))
            case atStart => exact ⟨(0), (0), (by first | rfl | (simp; done) | (simp [*]; done)), (by first | rfl | (simp; done) | (simp [*]; done)), H', ⟨Nat.le_refl _⟩, ⟨by (with_reducible repeat (first | apply Kd.R_alloc | apply Kd.R_drewN | apply Kd.R_drew)); exact HO_9.out⟩, ⟨by (with_reducible repeat (first | apply Kd.R_alloc | apply Kd.R_drewN | apply Kd.R_drew)); exact HO_11.out⟩, ⟨by repeat (first | (with_reducible first | exact HB.out | apply below_alloc | apply pw_below_drewN | apply below_drew1) | exact HB.out)⟩⟩
            case round =>
              clear H'
              try clear c1
              try clear c2
              try clear p2
              try clear c6
              try clear p6
              try clear c7
              try clear c9
              try clear c10
              try clear c12
              try clear c14
              try clear c18
              try clear c18b0
              try clear c18b1
              try clear c19
              try clear c19b0
              try clear c19b1
              try clear c20
              try clear c21
              try clear p2
              try clear p6
              obtain ⟨x15_2, x16_2, rfl, rfl, HA, HK2, HO_9, HO_11, HB⟩ := hrel
              cases gk with
              | zero => exact absurd HA.out (by simp [paymasterlaw20_CoverAll.l0])
              | succ k2 =>
                have H := HA.out
                clear HA
                simp only [paymasterlaw20_CoverAll.l0] at H
                have HC22 := Aside0.mk H
                clear H
                go_upto_region 12 with (fail)
                go_cut [91] (fun v91 wc => ∃ (kq : Nat) (x91_21 : Bool), v91 = .bool x91_21 ∧ Aside0 (paymasterlaw20_CoverAll.j2 kq a0 a1 a2 a3 t270 t274 x15_2 x16_2 x91_21 = some r) ∧ Aside0 (kq ≤ k2) ∧ Aside0 (Kd.R k33 33 wc w.heap.size (fun k_ => some k_ ≠ (v276 : Value).ownBlock) (.slice Ao16 t270.length co16) t270) ∧ Aside0 (Kd.R k33 33 wc w.heap.size (fun k_ => some k_ ≠ ((.slice Ao16 t270.length co16) : Value).ownBlock) v276 t274) ∧ Aside0 (Below w.heap.size w wc))
                case first =>
                  have H := HC22.out
                  clear HC22
                  by_cases c23 : x15_2 < (t274.length : Int)
                  · rw [if_pos c23] at H
                    have c23b0 : decide (x15_2 < (t274.length : Int)) = true := decide_eq_true c23
                    clear c23
                    (first | rw [c23b0] | (simp only [i64_w, i32_w]; rw [c23b0]) | skip)
                    have H' := Aside0.mk H
                    clear H
                    obtain ⟨Ao24, co24, eo24⟩ := Kd.R_slice HO_11.out
                    subst eo24
                    go_wp2
                    go_meet
                    case rel => exact ⟨_, (decide (x16_2 < a1)), (by first | rfl | (simp; done) | (simp [*]; done)), H', ⟨by have := HJ11.out; have := HK2.out; first | omega | exact Nat.le_refl _⟩, ⟨by (with_reducible repeat (first | apply Kd.R_alloc | apply Kd.R_drewN | apply Kd.R_drew)); exact HO_9.out⟩, ⟨by (with_reducible repeat (first | apply Kd.R_alloc | apply Kd.R_drewN | apply Kd.R_drew)); exact HO_11.out⟩, ⟨by repeat (first | (with_reducible first | exact HB.out | apply below_alloc | apply pw_below_drewN | apply below_drew1) | exact HB.out)⟩⟩
                  · rw [if_neg c23] at H
                    have c23b0 : decide (x15_2 < (t274.length : Int)) = false := decide_eq_false c23
                    clear c23
                    (first | rw [c23b0] | (simp only [i64_w, i32_w]; rw [c23b0]) | skip)
                    have H' := Aside0.mk H
                    clear H
                    obtain ⟨Ao25, co25, eo25⟩ := Kd.R_slice HO_11.out
                    subst eo25
                    go_wp2
                    go_meet
                    case rel => exact ⟨_, (false), (by first | rfl | (simp; done) | (simp [*]; done)), H', ⟨by have := HJ11.out; have := HK2.out; first | omega | exact Nat.le_refl _⟩, ⟨by (with_reducible repeat (first | apply Kd.R_alloc | apply Kd.R_drewN | apply Kd.R_drew)); exact HO_9.out⟩, ⟨by (with_reducible repeat (first | apply Kd.R_alloc | apply Kd.R_drewN | apply Kd.R_drew)); exact HO_11.out⟩, ⟨by repeat (first | (with_reducible first | exact HB.out | apply below_alloc | apply pw_below_drewN | apply below_drew1) | exact HB.out)⟩⟩
                case rest =>
                  clear HC22
                  try clear c1
                  try clear c2
                  try clear p2
                  try clear c6
                  try clear p6
                  try clear c7
                  try clear c9
                  try clear c10
                  try clear c12
                  try clear c14
                  try clear c18
                  try clear c18b0
                  try clear c18b1
                  try clear c19
                  try clear c19b0
                  try clear c19b1
                  try clear c20
                  try clear c21
                  try clear c23
                  try clear c23b0
                  try clear p2
                  try clear p6
                  obtain ⟨kq, x91_21, rfl, HA, HJ21, HO_9, HO_11, HB⟩ := hcut
                  cases kq with
                  | zero => exact absurd HA.out (by simp [paymasterlaw20_CoverAll.j2])
                  | succ kj21 =>
                    have H := HA.out
                    clear HA
                    simp only [paymasterlaw20_CoverAll.j2] at H
                    by_cases c26 : x91_21 = true
                    · subst c26
                      have H1 : (if 0 ≤ x15_2 then (if x15_2 < (t274.length : Int) then ((cover_Span.f ((rd_T33 t274 x15_2).f0) ((rd_T33 t274 x15_2).f1)).bind fun bt282 => (if bt282.1 = x16_2 then (if bt282.2 ≤ bt282.1 then (some false) else (paymasterlaw20_CoverAll.l0 kj21 a0 a1 a2 a3 t270 t274 (wrap64 (x15_2 + 1)) bt282.2)) else (some false))) else (none)) else (none)) = some r := by rw [if_pos rfl] at H; exact H
                      clear H
                      have H := H1
                      clear H1
                      by_cases c27 : 0 ≤ x15_2
                      · rw [if_pos c27] at H
                        have c27b0 : decide (0 ≤ x15_2) = true := decide_eq_true c27
                        clear c27
                        by_cases c28 : x15_2 < (t274.length : Int)
                        · rw [if_pos c28] at H
                          have c28b0 : decide (x15_2 < (t274.length : Int)) = true := decide_eq_true c28
                          clear c28
                          replace H := Option.bind_eq_some_iff.mp H
                          obtain ⟨⟨t282, t283⟩, A290, H⟩ := H
                          replace H : (if t282 = x16_2 then (if t283 ≤ t282 then (some false) else (paymasterlaw20_CoverAll.l0 kj21 a0 a1 a2 a3 t270 t274 (wrap64 (x15_2 + 1)) t283)) else (some false)) = some r := H
                          have A29 := Aside0.mk A290
                          clear A290
                          by_cases c30 : t282 = x16_2
                          · rw [if_pos c30] at H
                            have c30b0 : (t282 == x16_2) = true := beq_iff_eq.mpr c30
                            have c30b1 : (t282 != x16_2) = false := bne_eq_false_iff_eq.mpr c30
                            clear c30
                            by_cases c31 : t283 ≤ t282
                            · rw [if_pos c31] at H
                              have c31b0 : decide (t283 ≤ t282) = true := decide_eq_true c31
                              clear c31
                              obtain rfl := Option.some.inj H
                              obtain ⟨Ao32, co32, eo32⟩ := Kd.R_slice HO_11.out
                              subst eo32
                              have p281 : 0 ≤ (x15_2 : Int) := of_decide_eq_true (by first | (with_reducible assumption) | assumption)
                              have q281 : x15_2 < (t274.length : Int) := of_decide_eq_true (by first | (with_reducible assumption) | assumption)
                              obtain ⟨ad281, e281, hx281_0, hx281_1⟩ := at_T33 (Kd.R_reads' HO_11.out).2.2 x15_2 p281 q281
                              cases e281
                              replace p281 := eq_true p281
                              replace q281 := eq_true q281
                              go_wp2_with (first | ((with_reducible refine gate_callee (f := 15) rfl ?_); refine goesL_ (some 97) rfl rfl Tryd.func15 (by kernel_rfl) rfl #[.agg #[.int .i64 ((rd_T33 t274 x15_2).f0), .int .u64 ((rd_T33 t274 x15_2).f1)]] rfl (by (try simp only [List.map_toArray, List.map_cons, List.map_nil]); first | done | rfl | (simp only [List.length_drop, List.length_take]; rfl)) ?_; (with_reducible refine (cover_Span.calls ((rd_T33 t274 x15_2).f0) ((rd_T33 t274 x15_2).f1) t282 t283 _ A29.out).mono ?_); rintro e w33 ⟨rfl, hb⟩; refine ⟨_, rfl, ?_⟩; have n0_ := Aside0.mk (Kd.R_below (by (with_reducible repeat (first | apply Kd.R_alloc | apply Kd.R_drewN | apply Kd.R_drew)); exact HO_9.out) hb); have n1_ := Aside0.mk (Kd.R_below (by (with_reducible repeat (first | apply Kd.R_alloc | apply Kd.R_drewN | apply Kd.R_drew)); exact HO_11.out) hb); have n2_ := Aside0.mk (below_step (by repeat (first | (with_reducible first | exact HB.out | apply below_alloc | apply pw_below_drewN | apply below_drew1) | exact HB.out)) hb); clear HO_9; clear HO_11; clear HB; have HO_9 := n0_; have HO_11 := n1_; have HB := n2_; clear n0_ n1_ n2_; (try clear hb); (try clear hb2); (try clear hk); (try clear hi)))
                              go_ret
                              exact ⟨by first | rfl | (simp [errW_none, errW_some] <;> rfl) | (simp [*, errW_none, errW_some] <;> rfl), by repeat (first | (with_reducible first | exact HB.out | apply below_alloc | apply pw_below_drewN | apply below_drew1) | exact HB.out)⟩
                            · rw [if_neg c31] at H
                              have c31b0 : decide (t283 ≤ t282) = false := decide_eq_false c31
                              clear c31
                              have H' := Aside0.mk H
                              clear H
                              obtain ⟨Ao34, co34, eo34⟩ := Kd.R_slice HO_11.out
                              subst eo34
                              have p281 : 0 ≤ (x15_2 : Int) := of_decide_eq_true (by first | (with_reducible assumption) | assumption)
                              have q281 : x15_2 < (t274.length : Int) := of_decide_eq_true (by first | (with_reducible assumption) | assumption)
                              obtain ⟨ad281, e281, hx281_0, hx281_1⟩ := at_T33 (Kd.R_reads' HO_11.out).2.2 x15_2 p281 q281
                              cases e281
                              replace p281 := eq_true p281
                              replace q281 := eq_true q281
                              go_wp2_with (first | ((with_reducible refine gate_callee (f := 15) rfl ?_); refine goesL_ (some 97) rfl rfl Tryd.func15 (by kernel_rfl) rfl #[.agg #[.int .i64 ((rd_T33 t274 x15_2).f0), .int .u64 ((rd_T33 t274 x15_2).f1)]] rfl (by (try simp only [List.map_toArray, List.map_cons, List.map_nil]); first | done | rfl | (simp only [List.length_drop, List.length_take]; rfl)) ?_; (with_reducible refine (cover_Span.calls ((rd_T33 t274 x15_2).f0) ((rd_T33 t274 x15_2).f1) t282 t283 _ A29.out).mono ?_); rintro e w35 ⟨rfl, hb⟩; refine ⟨_, rfl, ?_⟩; have n0_ := Aside0.mk (Kd.R_below (by (with_reducible repeat (first | apply Kd.R_alloc | apply Kd.R_drewN | apply Kd.R_drew)); exact HO_9.out) hb); have n1_ := Aside0.mk (Kd.R_below (by (with_reducible repeat (first | apply Kd.R_alloc | apply Kd.R_drewN | apply Kd.R_drew)); exact HO_11.out) hb); have n2_ := Aside0.mk (below_step (by repeat (first | (with_reducible first | exact HB.out | apply below_alloc | apply pw_below_drewN | apply below_drew1) | exact HB.out)) hb); clear HO_9; clear HO_11; clear HB; have HO_9 := n0_; have HO_11 := n1_; have HB := n2_; clear n0_ n1_ n2_; (try clear hb); (try clear hb2); (try clear hk); (try clear hi)))
                              go_roundg kj21
                              case measure => have := HJ11.out; have := HK2.out; have := HJ21.out; omega
                              case rel => exact ⟨(wrap64 (x15_2 + 1)), (t283), (by first | rfl | (simp; done) | (simp [*]; done)), (by first | rfl | (simp; done) | (simp [*]; done)), H', ⟨by have := HJ11.out; have := HK2.out; have := HJ21.out; omega⟩, ⟨by (with_reducible repeat (first | apply Kd.R_alloc | apply Kd.R_drewN | apply Kd.R_drew)); exact HO_9.out⟩, ⟨by (with_reducible repeat (first | apply Kd.R_alloc | apply Kd.R_drewN | apply Kd.R_drew)); exact HO_11.out⟩, ⟨by repeat (first | (with_reducible first | exact HB.out | apply below_alloc | apply pw_below_drewN | apply below_drew1) | exact HB.out)⟩⟩
                          · rw [if_neg c30] at H
                            have c30b0 : (t282 == x16_2) = false := beq_eq_false_iff_ne.mpr c30
                            have c30b1 : (t282 != x16_2) = true := bne_iff_ne.mpr c30
                            obtain rfl := Option.some.inj H
                            obtain ⟨Ao36, co36, eo36⟩ := Kd.R_slice HO_11.out
                            subst eo36
                            have p281 : 0 ≤ (x15_2 : Int) := of_decide_eq_true (by first | (with_reducible assumption) | assumption)
                            have q281 : x15_2 < (t274.length : Int) := of_decide_eq_true (by first | (with_reducible assumption) | assumption)
                            obtain ⟨ad281, e281, hx281_0, hx281_1⟩ := at_T33 (Kd.R_reads' HO_11.out).2.2 x15_2 p281 q281
                            cases e281
                            replace p281 := eq_true p281
                            replace q281 := eq_true q281
                            go_wp2_with (first | ((with_reducible refine gate_callee (f := 15) rfl ?_); refine goesL_ (some 97) rfl rfl Tryd.func15 (by kernel_rfl) rfl #[.agg #[.int .i64 ((rd_T33 t274 x15_2).f0), .int .u64 ((rd_T33 t274 x15_2).f1)]] rfl (by (try simp only [List.map_toArray, List.map_cons, List.map_nil]); first | done | rfl | (simp only [List.length_drop, List.length_take]; rfl)) ?_; (with_reducible refine (cover_Span.calls ((rd_T33 t274 x15_2).f0) ((rd_T33 t274 x15_2).f1) t282 t283 _ A29.out).mono ?_); rintro e w37 ⟨rfl, hb⟩; refine ⟨_, rfl, ?_⟩; have n0_ := Aside0.mk (Kd.R_below (by (with_reducible repeat (first | apply Kd.R_alloc | apply Kd.R_drewN | apply Kd.R_drew)); exact HO_9.out) hb); have n1_ := Aside0.mk (Kd.R_below (by (with_reducible repeat (first | apply Kd.R_alloc | apply Kd.R_drewN | apply Kd.R_drew)); exact HO_11.out) hb); have n2_ := Aside0.mk (below_step (by repeat (first | (with_reducible first | exact HB.out | apply below_alloc | apply pw_below_drewN | apply below_drew1) | exact HB.out)) hb); clear HO_9; clear HO_11; clear HB; have HO_9 := n0_; have HO_11 := n1_; have HB := n2_; clear n0_ n1_ n2_; (try clear hb); (try clear hb2); (try clear hk); (try clear hi)))
                            go_ret
                            exact ⟨by first | rfl | (simp [errW_none, errW_some] <;> rfl) | (simp [*, errW_none, errW_some] <;> rfl), by repeat (first | (with_reducible first | exact HB.out | apply below_alloc | apply pw_below_drewN | apply below_drew1) | exact HB.out)⟩
                        · rw [if_neg c28] at H
                          exact absurd H (by simp)
                      · rw [if_neg c27] at H
                        exact absurd H (by simp)
                    · replace c26 := Bool.eq_false_iff.mpr c26
                      subst c26
                      have H1 : (if 0 ≤ x15_2 then (if x15_2 ≤ (t274.length : Int) then ((cover_Whole.f kj21 a2 (t274.drop (x15_2 : Int).toNat)).bind fun bt288 => (if x16_2 = a1 then (if bt288.2 = true then ((paymasterlaw20_two.f a0).bind fun t290 => (paymasterlaw20_CoverAll.j3 kj21 a0 a1 a2 a3 t270 t274 (bt288.1 != t290))) else (paymasterlaw20_CoverAll.j3 kj21 a0 a1 a2 a3 t270 t274 true)) else (paymasterlaw20_CoverAll.j3 kj21 a0 a1 a2 a3 t270 t274 true))) else (none)) else (none)) = some r := by rw [if_neg (show ¬ (false = true) by decide)] at H; exact H
                      clear H
                      have H := H1
                      clear H1
                      by_cases c38 : 0 ≤ x15_2
                      · rw [if_pos c38] at H
                        have c38b0 := eq_true c38
                        have c38b1 : decide (0 ≤ x15_2) = true := decide_eq_true c38
                        clear c38
                        by_cases c39 : x15_2 ≤ (t274.length : Int)
                        · rw [if_pos c39] at H
                          have c39b0 := eq_true c39
                          have c39b1 : decide (x15_2 ≤ (t274.length : Int)) = true := decide_eq_true c39
                          clear c39
                          obtain ⟨y284, hy284⟩ : ∃ y_ : List (S33), y_ = (t274.drop (x15_2 : Int).toNat) := ⟨_, rfl⟩
                          replace H : ((cover_Whole.f kj21 a2 y284).bind fun bt288 => (if x16_2 = a1 then (if bt288.2 = true then ((paymasterlaw20_two.f a0).bind fun t290 => (paymasterlaw20_CoverAll.j3 kj21 a0 a1 a2 a3 t270 t274 (bt288.1 != t290))) else (paymasterlaw20_CoverAll.j3 kj21 a0 a1 a2 a3 t270 t274 true)) else (paymasterlaw20_CoverAll.j3 kj21 a0 a1 a2 a3 t270 t274 true))) = some r := by first | (rw [hy284]; with_reducible exact H) | (have H2_ := (Option.bind_some _ _).symm.trans H; rw [hy284]; with_reducible exact H2_) | (have H2_ := (Option.bind_some _ _).symm.trans H; with_reducible exact H2_) | with_reducible exact H | (rw [hy284]; exact H) | exact H
                          have Ny284 := Aside0.mk hy284
                          clear hy284
                          replace H := Option.bind_eq_some_iff.mp H
                          obtain ⟨⟨t288, t289⟩, A400, H⟩ := H
                          replace H : (if x16_2 = a1 then (if t289 = true then ((paymasterlaw20_two.f a0).bind fun t290 => (paymasterlaw20_CoverAll.j3 kj21 a0 a1 a2 a3 t270 t274 (t288 != t290))) else (paymasterlaw20_CoverAll.j3 kj21 a0 a1 a2 a3 t270 t274 true)) else (paymasterlaw20_CoverAll.j3 kj21 a0 a1 a2 a3 t270 t274 true)) = some r := H
                          have A40 := Aside0.mk A400
                          clear A400
                          have HC41 := Aside0.mk H
                          clear H
                          obtain ⟨Ao43, co43, eo43⟩ := Kd.R_slice HO_11.out
                          subst eo43
                          have q42 : (x15_2 : Int) ≤ ((t274.length : Int) : Int) := of_decide_eq_true (by first | (with_reducible assumption) | assumption)
                          obtain ⟨i042, hi042, _, hsz42, _⟩ := info_parts info33
                          have hroom42 : t274.length ≤ co43 := (Kd.R_reads' HO_11.out).2.1
                          have hC42 : Kd.C k33 _ Ao43 t274.length t274 := (Kd.R_reads' HO_11.out).2.2
                          have q042 : (0 : Int) ≤ (x15_2 : Int) := of_decide_eq_true (by first | (with_reducible assumption) | assumption)
                          have hcut42 := cut_from (P := Tryd.prog) 23 33 .i64 Tryd.underlying23 hi042 2 hsz42 Ao43 t274.length co43 x15_2 q042 q42
                          have hr42 := Kd.C_drop (m := (x15_2 : Int).toNat) (c := co43) hC42 (by omega) hroom42
                          obtain ⟨A42, hA42⟩ : ∃ A1, A1 = (if co43 = (x15_2 : Int).toNat then Ao43 else (Ao43 : Option Addr).map (·.add ((x15_2 : Int).toNat * 2))) := ⟨_, rfl⟩
                          obtain ⟨c42, hc42⟩ : ∃ c1, c1 = co43 - (x15_2 : Int).toNat := ⟨_, rfl⟩
                          have hy42 : y284.length = t274.length - (x15_2 : Int).toNat := (by rw [Ny284.out, List.length_drop] <;> omega)
                          rw [show (t274).drop (x15_2 : Int).toNat = y284 from Ny284.out.symm] at hr42
                          replace hr42 : Kd.C k33 _ A42 y284.length y284 := (by rw [hA42]; exact hr42)
                          rw [← hy42, ← hA42, ← hc42] at hcut42
                          have HR287 := Aside0.mk hr42
                          have HC287 := Aside0.mk (show y284.length ≤ c42 from by rw [hy42, hc42]; exact Nat.sub_le_sub_right hroom42 _)
                          clear hr42 hC42 hroom42 hi042 hsz42 hc42
                          have KY42 := Aside0.mk hy42
                          have KA42 := Aside0.mk hA42
                          clear hy42 hA42
                          have KL42 := Aside0.mk (show (x15_2 : Int).toNat ≤ t274.length from by omega)
                          replace q42 := eq_true q42
                          go_upto_region 19 with (first | ((with_reducible refine gate_callee (f := 19) rfl ?_); refine goesL_ (some 116) rfl rfl Tryd.func19 (by kernel_rfl) rfl #[.int .u64 a2, .slice A42 y284.length c42] rfl (by (try simp only [List.map_toArray, List.map_cons, List.map_nil]); first | done | rfl | (simp only [List.length_drop, List.length_take]; rfl)) ?_; (with_reducible refine (cover_Whole.calls kj21 a2 _ _ y284 t288 t289 _ ?side1 ?side2 A40.out).mono ?_); (case side1 => repeat (first | exact (by repeat (first | (with_reducible exact HR287.out) | (with_reducible refine Kd.C_alloc ?_ _) | (with_reducible refine Kd.C_drewN ?_ _) | (with_reducible refine Kd.C_drew ?_) | exact HR287.out)) | (with_reducible refine Kd.C_alloc ?_ _) | (with_reducible refine Kd.C_drewN ?_ _) | (with_reducible refine Kd.C_drew ?_))); (case side2 => exact HC287.out); rintro e w44 ⟨rfl, hb⟩; refine ⟨_, rfl, ?_⟩; have n0_ := Aside0.mk (Kd.R_below (by (with_reducible repeat (first | apply Kd.R_alloc | apply Kd.R_drewN | apply Kd.R_drew)); exact HO_9.out) hb); have n1_ := Aside0.mk (Kd.R_below (by (with_reducible repeat (first | apply Kd.R_alloc | apply Kd.R_drewN | apply Kd.R_drew)); exact HO_11.out) hb); have n2_ := Aside0.mk (Kd.C_below (by repeat (first | (with_reducible exact HR287.out) | (with_reducible refine Kd.C_alloc ?_ _) | (with_reducible refine Kd.C_drewN ?_ _) | (with_reducible refine Kd.C_drew ?_) | exact HR287.out)) hb); have n3_ := Aside0.mk (below_step (by repeat (first | (with_reducible first | exact HB.out | apply below_alloc | apply pw_below_drewN | apply below_drew1) | exact HB.out)) hb); clear HO_9; clear HO_11; clear HR287; clear HB; have HO_9 := n0_; have HO_11 := n1_; have HR287 := n2_; have HB := n3_; clear n0_ n1_ n2_ n3_; (try clear hb); (try clear hb2); (try clear hk); (try clear hi)))
                          (try simp only [Act.put, List.setIfInBounds_toArray, List.set_cons_zero, List.set_cons_succ])
                          go_cut [131] (fun v131 wc => ∃ (kq : Nat) (x131_40 : Bool), v131 = .bool x131_40 ∧ Aside0 (paymasterlaw20_CoverAll.j3 kq a0 a1 a2 a3 t270 t274 x131_40 = some r) ∧ Aside0 (kq ≤ kj21) ∧ Aside0 (Kd.R k33 33 wc w.heap.size (fun k_ => some k_ ≠ ((.slice Ao43 t274.length co43) : Value).ownBlock) (.slice Ao16 t270.length co16) t270) ∧ Aside0 (Kd.R k33 33 wc w.heap.size (fun k_ => some k_ ≠ ((.slice Ao16 t270.length co16) : Value).ownBlock) (.slice Ao43 t274.length co43) t274) ∧ Aside0 (Kd.C k33 wc A42 y284.length y284) ∧ Aside0 (Below w.heap.size w wc))
                          case first =>
                            have H := HC41.out
                            clear HC41
                            by_cases c45 : x16_2 = a1
                            · rw [if_pos c45] at H
                              have c45b0 : (x16_2 == a1) = true := beq_iff_eq.mpr c45
                              have c45b1 : (x16_2 != a1) = false := bne_eq_false_iff_eq.mpr c45
                              clear c45
                              (first | rw [c45b0] | (simp only [i64_w, i32_w]; rw [c45b0]) | skip)
                              by_cases c46 : t289 = true
                              · subst c46
                                have H1 : ((paymasterlaw20_two.f a0).bind fun t290 => (paymasterlaw20_CoverAll.j3 kj21 a0 a1 a2 a3 t270 t274 (t288 != t290))) = some r := by rw [if_pos rfl] at H; exact H
                                clear H
                                have H := H1
                                clear H1
                                replace H := Option.bind_eq_some_iff.mp H
                                obtain ⟨t290, A470, H⟩ := H
                                replace H : (paymasterlaw20_CoverAll.j3 kj21 a0 a1 a2 a3 t270 t274 (t288 != t290)) = some r := H
                                have A47 := Aside0.mk A470
                                clear A470
                                have H' := Aside0.mk H
                                clear H
                                go_wp2_with (first | (go_at_call 18; (with_reducible refine (paymasterlaw20_two.calls a0 t290 _ A47.out).mono ?_); rintro e w' ⟨rfl, ⟨nd, rfl⟩⟩))
                                go_meet
                                case rel => exact ⟨_, ((t288 != t290)), (by first | rfl | (simp; done) | (simp [*]; done)), H', ⟨by have := HJ11.out; have := HK2.out; have := HJ21.out; first | omega | exact Nat.le_refl _⟩, ⟨by (with_reducible repeat (first | apply Kd.R_alloc | apply Kd.R_drewN | apply Kd.R_drew)); exact HO_9.out⟩, ⟨by (with_reducible repeat (first | apply Kd.R_alloc | apply Kd.R_drewN | apply Kd.R_drew)); exact HO_11.out⟩, ⟨by repeat (first | (with_reducible exact HR287.out) | (with_reducible refine Kd.C_alloc ?_ _) | (with_reducible refine Kd.C_drewN ?_ _) | (with_reducible refine Kd.C_drew ?_) | exact HR287.out)⟩, ⟨by repeat (first | (with_reducible first | exact HB.out | apply below_alloc | apply pw_below_drewN | apply below_drew1) | exact HB.out)⟩⟩
                              · replace c46 := Bool.eq_false_iff.mpr c46
                                subst c46
                                have H1 : (paymasterlaw20_CoverAll.j3 kj21 a0 a1 a2 a3 t270 t274 true) = some r := by rw [if_neg (show ¬ (false = true) by decide)] at H; exact H
                                clear H
                                have H := H1
                                clear H1
                                have H' := Aside0.mk H
                                clear H
                                go_wp2
                                go_meet
                                case rel => exact ⟨_, (true), (by first | rfl | (simp; done) | (simp [*]; done)), H', ⟨by have := HJ11.out; have := HK2.out; have := HJ21.out; first | omega | exact Nat.le_refl _⟩, ⟨by (with_reducible repeat (first | apply Kd.R_alloc | apply Kd.R_drewN | apply Kd.R_drew)); exact HO_9.out⟩, ⟨by (with_reducible repeat (first | apply Kd.R_alloc | apply Kd.R_drewN | apply Kd.R_drew)); exact HO_11.out⟩, ⟨by repeat (first | (with_reducible exact HR287.out) | (with_reducible refine Kd.C_alloc ?_ _) | (with_reducible refine Kd.C_drewN ?_ _) | (with_reducible refine Kd.C_drew ?_) | exact HR287.out)⟩, ⟨by repeat (first | (with_reducible first | exact HB.out | apply below_alloc | apply pw_below_drewN | apply below_drew1) | exact HB.out)⟩⟩
                            · rw [if_neg c45] at H
                              have c45b0 : (x16_2 == a1) = false := beq_eq_false_iff_ne.mpr c45
                              have c45b1 : (x16_2 != a1) = true := bne_iff_ne.mpr c45
                              (first | rw [c45b0] | (simp only [i64_w, i32_w]; rw [c45b0]) | skip)
                              have H' := Aside0.mk H
                              clear H
                              go_wp2
                              go_meet
                              case rel => exact ⟨_, (true), (by first | rfl | (simp; done) | (simp [*]; done)), H', ⟨by have := HJ11.out; have := HK2.out; have := HJ21.out; first | omega | exact Nat.le_refl _⟩, ⟨by (with_reducible repeat (first | apply Kd.R_alloc | apply Kd.R_drewN | apply Kd.R_drew)); exact HO_9.out⟩, ⟨by (with_reducible repeat (first | apply Kd.R_alloc | apply Kd.R_drewN | apply Kd.R_drew)); exact HO_11.out⟩, ⟨by repeat (first | (with_reducible exact HR287.out) | (with_reducible refine Kd.C_alloc ?_ _) | (with_reducible refine Kd.C_drewN ?_ _) | (with_reducible refine Kd.C_drew ?_) | exact HR287.out)⟩, ⟨by repeat (first | (with_reducible first | exact HB.out | apply below_alloc | apply pw_below_drewN | apply below_drew1) | exact HB.out)⟩⟩
                          case rest =>
                            clear HC41
                            try clear c1
                            try clear c2
                            try clear p2
                            try clear q2
                            try clear hx2
                            try clear c3
                            try clear c4
                            try clear q4
                            try clear c6
                            try clear p6
                            try clear c7
                            try clear c9
                            try clear c10
                            try clear c12
                            try clear c14
                            try clear c15
                            try clear c18
                            try clear c18b0
                            try clear c18b1
                            try clear c19
                            try clear c19b0
                            try clear c19b1
                            try clear c20
                            try clear c21
                            try clear c23
                            try clear c23b0
                            try clear c26
                            try clear c27
                            try clear c27b0
                            try clear c28
                            try clear c28b0
                            try clear p28
                            try clear q28
                            try clear hx28
                            try clear c30
                            try clear c30b0
                            try clear c30b1
                            try clear c31
                            try clear c31b0
                            try clear c38
                            try clear c38b0
                            try clear c38b1
                            try clear c39
                            try clear c39b0
                            try clear c39b1
                            try clear c42
                            try clear q42
                            try clear c45
                            try clear c45b0
                            try clear c45b1
                            try clear c46
                            try clear hx281_0
                            try clear hx281_1
                            try clear p2
                            try clear p281
                            try clear p6
                            try clear q042
                            try clear q281
                            try clear q42
                            obtain ⟨kq, x131_40, rfl, HA, HJ40, HO_9, HO_11, HR287, HB⟩ := hcut
                            cases kq with
                            | zero => exact absurd HA.out (by simp [paymasterlaw20_CoverAll.j3])
                            | succ kj40 =>
                              have H := HA.out
                              clear HA
                              simp only [paymasterlaw20_CoverAll.j3] at H
                              by_cases c48 : x131_40 = true
                              · subst c48
                                have H1 : (some false) = some r := by rw [if_pos rfl] at H; exact H
                                clear H
                                have H := H1
                                clear H1
                                obtain rfl := Option.some.inj H
                                go_wp2
                                go_ret
                                exact ⟨by first | rfl | (simp [errW_none, errW_some] <;> rfl) | (simp [*, errW_none, errW_some] <;> rfl), by repeat (first | (with_reducible first | exact HB.out | apply below_alloc | apply pw_below_drewN | apply below_drew1) | exact HB.out)⟩
                              · replace c48 := Bool.eq_false_iff.mpr c48
                                subst c48
                                have H1 : (paymasterlaw20_CoverAll.l1 kj40 a0 a1 a2 a3 t270 t274 0 0 0) = some r := by rw [if_neg (show ¬ (false = true) by decide)] at H; exact H
                                clear H
                                have H := H1
                                clear H1
                                have H' := Aside0.mk H
                                clear H
                                go_wp2
                                go_loopg [21, 23] kj40 (fun kq v21 v23 w' => ∃ (x21_5 : Int) (x23_5 : Int), v21 = .int .i64 x21_5 ∧ v23 = .int .i64 x23_5 ∧ Aside0 (paymasterlaw20_CoverAll.l1 kq a0 a1 a2 a3 t270 t274 x21_5 0 x23_5 = some r) ∧ Aside0 (kq ≤ kj40) ∧ Aside0 (Kd.R k33 33 w' w.heap.size (fun k_ => some k_ ≠ ((.slice Ao43 t274.length co43) : Value).ownBlock) (.slice Ao16 t270.length co16) t270) ∧ Aside0 (Kd.R k33 33 w' w.heap.size (fun k_ => some k_ ≠ ((.slice Ao16 t270.length co16) : Value).ownBlock) (.slice Ao43 t274.length co43) t274) ∧ Aside0 (Kd.C k33 w' A42 y284.length y284) ∧ Aside0 (Below w.heap.size w w'))
                                case atStart => exact ⟨(0), (0), (by first | rfl | (simp; done) | (simp [*]; done)), (by first | rfl | (simp; done) | (simp [*]; done)), H', ⟨Nat.le_refl _⟩, ⟨by (with_reducible repeat (first | apply Kd.R_alloc | apply Kd.R_drewN | apply Kd.R_drew)); exact HO_9.out⟩, ⟨by (with_reducible repeat (first | apply Kd.R_alloc | apply Kd.R_drewN | apply Kd.R_drew)); exact HO_11.out⟩, ⟨by repeat (first | (with_reducible exact HR287.out) | (with_reducible refine Kd.C_alloc ?_ _) | (with_reducible refine Kd.C_drewN ?_ _) | (with_reducible refine Kd.C_drew ?_) | exact HR287.out)⟩, ⟨by repeat (first | (with_reducible first | exact HB.out | apply below_alloc | apply pw_below_drewN | apply below_drew1) | exact HB.out)⟩⟩
                                case round =>
                                  clear H'
                                  try clear c1
                                  try clear c2
                                  try clear p2
                                  try clear q2
                                  try clear hx2
                                  try clear c3
                                  try clear c4
                                  try clear q4
                                  try clear c6
                                  try clear p6
                                  try clear c7
                                  try clear c9
                                  try clear c10
                                  try clear c12
                                  try clear c14
                                  try clear c15
                                  try clear c18
                                  try clear c18b0
                                  try clear c18b1
                                  try clear c19
                                  try clear c19b0
                                  try clear c19b1
                                  try clear c20
                                  try clear c21
                                  try clear c23
                                  try clear c23b0
                                  try clear c26
                                  try clear c27
                                  try clear c27b0
                                  try clear c28
                                  try clear c28b0
                                  try clear p28
                                  try clear q28
                                  try clear hx28
                                  try clear c30
                                  try clear c30b0
                                  try clear c30b1
                                  try clear c31
                                  try clear c31b0
                                  try clear c38
                                  try clear c38b0
                                  try clear c38b1
                                  try clear c39
                                  try clear c39b0
                                  try clear c39b1
                                  try clear c42
                                  try clear q42
                                  try clear c45
                                  try clear c45b0
                                  try clear c45b1
                                  try clear c46
                                  try clear c48
                                  try clear hx281_0
                                  try clear hx281_1
                                  try clear p2
                                  try clear p28
                                  try clear p281
                                  try clear p6
                                  try clear q042
                                  try clear q2
                                  try clear q28
                                  try clear q281
                                  try clear q4
                                  try clear q42
                                  obtain ⟨x21_5, x23_5, rfl, rfl, HA, HK5, HO_9, HO_11, HR287, HB⟩ := hrel
                                  cases gk with
                                  | zero => exact absurd HA.out (by simp [paymasterlaw20_CoverAll.l1])
                                  | succ k5 =>
                                    have H := HA.out
                                    clear HA
                                    simp only [paymasterlaw20_CoverAll.l1] at H
                                    by_cases c49 : x23_5 < (t270.length : Int)
                                    · rw [if_pos c49] at H
                                      have c49b0 : decide (x23_5 < (t270.length : Int)) = true := decide_eq_true c49
                                      clear c49
                                      by_cases c50 : 0 ≤ x23_5
                                      · rw [if_pos c50] at H
                                        have c50b0 : decide (0 ≤ x23_5) = true := decide_eq_true c50
                                        clear c50
                                        replace H := Option.bind_eq_some_iff.mp H
                                        obtain ⟨t292, A510, H⟩ := H
                                        replace H : (if t292 = true then (paymasterlaw20_CoverAll.l1 k5 a0 a1 a2 a3 t270 t274 (wrap64 (x21_5 + 1)) 0 (wrap64 (x23_5 + 1))) else (paymasterlaw20_CoverAll.l1 k5 a0 a1 a2 a3 t270 t274 x21_5 0 (wrap64 (x23_5 + 1)))) = some r := H
                                        have A51 := Aside0.mk A510
                                        clear A510
                                        by_cases c52 : t292 = true
                                        · subst c52
                                          have H1 : (paymasterlaw20_CoverAll.l1 k5 a0 a1 a2 a3 t270 t274 (wrap64 (x21_5 + 1)) 0 (wrap64 (x23_5 + 1))) = some r := by rw [if_pos rfl] at H; exact H
                                          clear H
                                          have H := H1
                                          clear H1
                                          have H' := Aside0.mk H
                                          clear H
                                          have p291 : 0 ≤ (x23_5 : Int) := of_decide_eq_true (by first | (with_reducible assumption) | assumption)
                                          have q291 : x23_5 < (t270.length : Int) := of_decide_eq_true (by first | (with_reducible assumption) | assumption)
                                          obtain ⟨ad291, e291, hx291_0, hx291_1⟩ := at_T33 (Kd.R_reads' HO_9.out).2.2 x23_5 p291 q291
                                          cases e291
                                          replace p291 := eq_true p291
                                          replace q291 := eq_true q291
                                          go_wp2_with (first | ((with_reducible refine gate_callee (f := 17) rfl ?_); refine goesL_ (some 143) rfl rfl Tryd.func17 (by kernel_rfl) rfl #[.agg #[.int .i64 ((rd_T33 t270 x23_5).f0), .int .u64 ((rd_T33 t270 x23_5).f1)], .int .u64 a3] rfl (by (try simp only [List.map_toArray, List.map_cons, List.map_nil]); first | done | rfl | (simp only [List.length_drop, List.length_take]; rfl)) ?_; (with_reducible refine (cover_Has.calls ((rd_T33 t270 x23_5).f0) ((rd_T33 t270 x23_5).f1) a3 true _ A51.out).mono ?_); rintro e w53 ⟨rfl, hb⟩; refine ⟨_, rfl, ?_⟩; have n0_ := Aside0.mk (Kd.R_below (by (with_reducible repeat (first | apply Kd.R_alloc | apply Kd.R_drewN | apply Kd.R_drew)); exact HO_9.out) hb); have n1_ := Aside0.mk (Kd.R_below (by (with_reducible repeat (first | apply Kd.R_alloc | apply Kd.R_drewN | apply Kd.R_drew)); exact HO_11.out) hb); have n2_ := Aside0.mk (Kd.C_below (by repeat (first | (with_reducible exact HR287.out) | (with_reducible refine Kd.C_alloc ?_ _) | (with_reducible refine Kd.C_drewN ?_ _) | (with_reducible refine Kd.C_drew ?_) | exact HR287.out)) hb); have n3_ := Aside0.mk (below_step (by repeat (first | (with_reducible first | exact HB.out | apply below_alloc | apply pw_below_drewN | apply below_drew1) | exact HB.out)) hb); clear HO_9; clear HO_11; clear HR287; clear HB; have HO_9 := n0_; have HO_11 := n1_; have HR287 := n2_; have HB := n3_; clear n0_ n1_ n2_ n3_; (try clear hb); (try clear hb2); (try clear hk); (try clear hi)))
                                          go_roundg k5
                                          case measure => have := HJ11.out; have := HK2.out; have := HJ21.out; have := HJ40.out; have := HK5.out; omega
                                          case rel => exact ⟨(wrap64 (x21_5 + 1)), (wrap64 (x23_5 + 1)), (by first | rfl | (simp; done) | (simp [*]; done)), (by first | rfl | (simp; done) | (simp [*]; done)), H', ⟨by have := HJ11.out; have := HK2.out; have := HJ21.out; have := HJ40.out; have := HK5.out; omega⟩, ⟨by (with_reducible repeat (first | apply Kd.R_alloc | apply Kd.R_drewN | apply Kd.R_drew)); exact HO_9.out⟩, ⟨by (with_reducible repeat (first | apply Kd.R_alloc | apply Kd.R_drewN | apply Kd.R_drew)); exact HO_11.out⟩, ⟨by repeat (first | (with_reducible exact HR287.out) | (with_reducible refine Kd.C_alloc ?_ _) | (with_reducible refine Kd.C_drewN ?_ _) | (with_reducible refine Kd.C_drew ?_) | exact HR287.out)⟩, ⟨by repeat (first | (with_reducible first | exact HB.out | apply below_alloc | apply pw_below_drewN | apply below_drew1) | exact HB.out)⟩⟩
                                        · replace c52 := Bool.eq_false_iff.mpr c52
                                          subst c52
                                          have H1 : (paymasterlaw20_CoverAll.l1 k5 a0 a1 a2 a3 t270 t274 x21_5 0 (wrap64 (x23_5 + 1))) = some r := by rw [if_neg (show ¬ (false = true) by decide)] at H; exact H
                                          clear H
                                          have H := H1
                                          clear H1
                                          have H' := Aside0.mk H
                                          clear H
                                          have p291 : 0 ≤ (x23_5 : Int) := of_decide_eq_true (by first | (with_reducible assumption) | assumption)
                                          have q291 : x23_5 < (t270.length : Int) := of_decide_eq_true (by first | (with_reducible assumption) | assumption)
                                          obtain ⟨ad291, e291, hx291_0, hx291_1⟩ := at_T33 (Kd.R_reads' HO_9.out).2.2 x23_5 p291 q291
                                          cases e291
                                          replace p291 := eq_true p291
                                          replace q291 := eq_true q291
                                          go_wp2_with (first | ((with_reducible refine gate_callee (f := 17) rfl ?_); refine goesL_ (some 143) rfl rfl Tryd.func17 (by kernel_rfl) rfl #[.agg #[.int .i64 ((rd_T33 t270 x23_5).f0), .int .u64 ((rd_T33 t270 x23_5).f1)], .int .u64 a3] rfl (by (try simp only [List.map_toArray, List.map_cons, List.map_nil]); first | done | rfl | (simp only [List.length_drop, List.length_take]; rfl)) ?_; (with_reducible refine (cover_Has.calls ((rd_T33 t270 x23_5).f0) ((rd_T33 t270 x23_5).f1) a3 false _ A51.out).mono ?_); rintro e w54 ⟨rfl, hb⟩; refine ⟨_, rfl, ?_⟩; have n0_ := Aside0.mk (Kd.R_below (by (with_reducible repeat (first | apply Kd.R_alloc | apply Kd.R_drewN | apply Kd.R_drew)); exact HO_9.out) hb); have n1_ := Aside0.mk (Kd.R_below (by (with_reducible repeat (first | apply Kd.R_alloc | apply Kd.R_drewN | apply Kd.R_drew)); exact HO_11.out) hb); have n2_ := Aside0.mk (Kd.C_below (by repeat (first | (with_reducible exact HR287.out) | (with_reducible refine Kd.C_alloc ?_ _) | (with_reducible refine Kd.C_drewN ?_ _) | (with_reducible refine Kd.C_drew ?_) | exact HR287.out)) hb); have n3_ := Aside0.mk (below_step (by repeat (first | (with_reducible first | exact HB.out | apply below_alloc | apply pw_below_drewN | apply below_drew1) | exact HB.out)) hb); clear HO_9; clear HO_11; clear HR287; clear HB; have HO_9 := n0_; have HO_11 := n1_; have HR287 := n2_; have HB := n3_; clear n0_ n1_ n2_ n3_; (try clear hb); (try clear hb2); (try clear hk); (try clear hi)))
                                          go_roundg k5
                                          case measure => have := HJ11.out; have := HK2.out; have := HJ21.out; have := HJ40.out; have := HK5.out; omega
                                          case rel => exact ⟨(x21_5), (wrap64 (x23_5 + 1)), (by first | rfl | (simp; done) | (simp [*]; done)), (by first | rfl | (simp; done) | (simp [*]; done)), H', ⟨by have := HJ11.out; have := HK2.out; have := HJ21.out; have := HJ40.out; have := HK5.out; omega⟩, ⟨by (with_reducible repeat (first | apply Kd.R_alloc | apply Kd.R_drewN | apply Kd.R_drew)); exact HO_9.out⟩, ⟨by (with_reducible repeat (first | apply Kd.R_alloc | apply Kd.R_drewN | apply Kd.R_drew)); exact HO_11.out⟩, ⟨by repeat (first | (with_reducible exact HR287.out) | (with_reducible refine Kd.C_alloc ?_ _) | (with_reducible refine Kd.C_drewN ?_ _) | (with_reducible refine Kd.C_drew ?_) | exact HR287.out)⟩, ⟨by repeat (first | (with_reducible first | exact HB.out | apply below_alloc | apply pw_below_drewN | apply below_drew1) | exact HB.out)⟩⟩
                                      · rw [if_neg c50] at H
                                        exact absurd H (by simp)
                                    · rw [if_neg c49] at H
                                      have c49b0 : decide (x23_5 < (t270.length : Int)) = false := decide_eq_false c49
                                      clear c49
                                      have H' := Aside0.mk H
                                      clear H
                                      go_wp2
                                      go_loopg [22, 24] k5 (fun kq v22 v24 w' => ∃ (x22_6 : Int) (x24_6 : Int), v22 = .int .i64 x22_6 ∧ v24 = .int .i64 x24_6 ∧ Aside0 (paymasterlaw20_CoverAll.l2 kq a0 a1 a2 a3 t274 x21_5 x22_6 x24_6 = some r) ∧ Aside0 (kq ≤ k5) ∧ Aside0 (Kd.R k33 33 w' w.heap.size (fun _ => True) (.slice Ao43 t274.length co43) t274) ∧ Aside0 (Kd.C k33 w' A42 y284.length y284) ∧ Aside0 (Below w.heap.size w w'))
                                      case atStart => exact ⟨(0), (0), (by first | rfl | (simp; done) | (simp [*]; done)), (by first | rfl | (simp; done) | (simp [*]; done)), H', ⟨Nat.le_refl _⟩, ⟨by (with_reducible repeat (first | apply Kd.R_alloc | apply Kd.R_drewN | apply Kd.R_drew)); exact Kd.R_mono HO_11.out (fun _ hk => trivial)⟩, ⟨by repeat (first | (with_reducible exact HR287.out) | (with_reducible refine Kd.C_alloc ?_ _) | (with_reducible refine Kd.C_drewN ?_ _) | (with_reducible refine Kd.C_drew ?_) | exact HR287.out)⟩, ⟨by repeat (first | (with_reducible first | exact HB.out | apply below_alloc | apply pw_below_drewN | apply below_drew1) | exact HB.out)⟩⟩
                                      case round =>
                                        clear H'
                                        try clear c1
                                        try clear c2
                                        try clear p2
                                        try clear q2
                                        try clear hx2
                                        try clear c3
                                        try clear c4
                                        try clear q4
                                        try clear c5
                                        try clear c6
                                        try clear p6
                                        try clear c7
                                        try clear c9
                                        try clear c10
                                        try clear c12
                                        try clear c14
                                        try clear c15
                                        try clear c17
                                        try clear c18
                                        try clear c18b0
                                        try clear c18b1
                                        try clear c19
                                        try clear c19b0
                                        try clear c19b1
                                        try clear c20
                                        try clear c21
                                        try clear c23
                                        try clear c23b0
                                        try clear c26
                                        try clear c27
                                        try clear c27b0
                                        try clear c28
                                        try clear c28b0
                                        try clear p28
                                        try clear q28
                                        try clear hx28
                                        try clear p29
                                        try clear q29
                                        try clear hx29
                                        try clear c30
                                        try clear c30b0
                                        try clear c30b1
                                        try clear c31
                                        try clear c31b0
                                        try clear c38
                                        try clear c38b0
                                        try clear c38b1
                                        try clear c39
                                        try clear c39b0
                                        try clear c39b1
                                        try clear c42
                                        try clear q42
                                        try clear c45
                                        try clear c45b0
                                        try clear c45b1
                                        try clear c46
                                        try clear c48
                                        try clear c49
                                        try clear c49b0
                                        try clear c50
                                        try clear c50b0
                                        try clear c52
                                        try clear hx281_0
                                        try clear hx281_1
                                        try clear hx291_0
                                        try clear hx291_1
                                        try clear p2
                                        try clear p28
                                        try clear p281
                                        try clear p291
                                        try clear p6
                                        try clear q042
                                        try clear q2
                                        try clear q28
                                        try clear q281
                                        try clear q291
                                        try clear q4
                                        try clear q42
                                        obtain ⟨x22_6, x24_6, rfl, rfl, HA, HK6, HO_11, HR287, HB⟩ := hrel
                                        cases gk with
                                        | zero => exact absurd HA.out (by simp [paymasterlaw20_CoverAll.l2])
                                        | succ k6 =>
                                          have H := HA.out
                                          clear HA
                                          simp only [paymasterlaw20_CoverAll.l2] at H
                                          by_cases c55 : x24_6 < (t274.length : Int)
                                          · rw [if_pos c55] at H
                                            have c55b0 : decide (x24_6 < (t274.length : Int)) = true := decide_eq_true c55
                                            clear c55
                                            by_cases c56 : 0 ≤ x24_6
                                            · rw [if_pos c56] at H
                                              have c56b0 : decide (0 ≤ x24_6) = true := decide_eq_true c56
                                              clear c56
                                              replace H := Option.bind_eq_some_iff.mp H
                                              obtain ⟨t294, A570, H⟩ := H
                                              replace H : (if t294 = true then (paymasterlaw20_CoverAll.l2 k6 a0 a1 a2 a3 t274 x21_5 (wrap64 (x22_6 + 1)) (wrap64 (x24_6 + 1))) else (paymasterlaw20_CoverAll.l2 k6 a0 a1 a2 a3 t274 x21_5 x22_6 (wrap64 (x24_6 + 1)))) = some r := H
                                              have A57 := Aside0.mk A570
                                              clear A570
                                              by_cases c58 : t294 = true
                                              · subst c58
                                                have H1 : (paymasterlaw20_CoverAll.l2 k6 a0 a1 a2 a3 t274 x21_5 (wrap64 (x22_6 + 1)) (wrap64 (x24_6 + 1))) = some r := by rw [if_pos rfl] at H; exact H
                                                clear H
                                                have H := H1
                                                clear H1
                                                have H' := Aside0.mk H
                                                clear H
                                                have p293 : 0 ≤ (x24_6 : Int) := of_decide_eq_true (by first | (with_reducible assumption) | assumption)
                                                have q293 : x24_6 < (t274.length : Int) := of_decide_eq_true (by first | (with_reducible assumption) | assumption)
                                                obtain ⟨ad293, e293, hx293_0, hx293_1⟩ := at_T33 (Kd.R_reads' HO_11.out).2.2 x24_6 p293 q293
                                                cases e293
                                                replace p293 := eq_true p293
                                                replace q293 := eq_true q293
                                                go_wp2_with (first | ((with_reducible refine gate_callee (f := 17) rfl ?_); refine goesL_ (some 157) rfl rfl Tryd.func17 (by kernel_rfl) rfl #[.agg #[.int .i64 ((rd_T33 t274 x24_6).f0), .int .u64 ((rd_T33 t274 x24_6).f1)], .int .u64 a3] rfl (by (try simp only [List.map_toArray, List.map_cons, List.map_nil]); first | done | rfl | (simp only [List.length_drop, List.length_take]; rfl)) ?_; (with_reducible refine (cover_Has.calls ((rd_T33 t274 x24_6).f0) ((rd_T33 t274 x24_6).f1) a3 true _ A57.out).mono ?_); rintro e w59 ⟨rfl, hb⟩; refine ⟨_, rfl, ?_⟩; have n0_ := Aside0.mk (Kd.R_below (by (with_reducible repeat (first | apply Kd.R_alloc | apply Kd.R_drewN | apply Kd.R_drew)); exact HO_11.out) hb); have n1_ := Aside0.mk (Kd.C_below (by repeat (first | (with_reducible exact HR287.out) | (with_reducible refine Kd.C_alloc ?_ _) | (with_reducible refine Kd.C_drewN ?_ _) | (with_reducible refine Kd.C_drew ?_) | exact HR287.out)) hb); have n2_ := Aside0.mk (below_step (by repeat (first | (with_reducible first | exact HB.out | apply below_alloc | apply pw_below_drewN | apply below_drew1) | exact HB.out)) hb); clear HO_11; clear HR287; clear HB; have HO_11 := n0_; have HR287 := n1_; have HB := n2_; clear n0_ n1_ n2_; (try clear hb); (try clear hb2); (try clear hk); (try clear hi)))
                                                go_roundg k6
                                                case measure => have := HJ11.out; have := HK2.out; have := HJ21.out; have := HJ40.out; have := HK5.out; have := HK6.out; omega
                                                case rel => exact ⟨(wrap64 (x22_6 + 1)), (wrap64 (x24_6 + 1)), (by first | rfl | (simp; done) | (simp [*]; done)), (by first | rfl | (simp; done) | (simp [*]; done)), H', ⟨by have := HJ11.out; have := HK2.out; have := HJ21.out; have := HJ40.out; have := HK5.out; have := HK6.out; omega⟩, ⟨by (with_reducible repeat (first | apply Kd.R_alloc | apply Kd.R_drewN | apply Kd.R_drew)); exact HO_11.out⟩, ⟨by repeat (first | (with_reducible exact HR287.out) | (with_reducible refine Kd.C_alloc ?_ _) | (with_reducible refine Kd.C_drewN ?_ _) | (with_reducible refine Kd.C_drew ?_) | exact HR287.out)⟩, ⟨by repeat (first | (with_reducible first | exact HB.out | apply below_alloc | apply pw_below_drewN | apply below_drew1) | exact HB.out)⟩⟩
                                              · replace c58 := Bool.eq_false_iff.mpr c58
                                                subst c58
                                                have H1 : (paymasterlaw20_CoverAll.l2 k6 a0 a1 a2 a3 t274 x21_5 x22_6 (wrap64 (x24_6 + 1))) = some r := by rw [if_neg (show ¬ (false = true) by decide)] at H; exact H
                                                clear H
                                                have H := H1
                                                clear H1
                                                have H' := Aside0.mk H
                                                clear H
                                                have p293 : 0 ≤ (x24_6 : Int) := of_decide_eq_true (by first | (with_reducible assumption) | assumption)
                                                have q293 : x24_6 < (t274.length : Int) := of_decide_eq_true (by first | (with_reducible assumption) | assumption)
                                                obtain ⟨ad293, e293, hx293_0, hx293_1⟩ := at_T33 (Kd.R_reads' HO_11.out).2.2 x24_6 p293 q293
                                                cases e293
                                                replace p293 := eq_true p293
                                                replace q293 := eq_true q293
                                                go_wp2_with (first | ((with_reducible refine gate_callee (f := 17) rfl ?_); refine goesL_ (some 157) rfl rfl Tryd.func17 (by kernel_rfl) rfl #[.agg #[.int .i64 ((rd_T33 t274 x24_6).f0), .int .u64 ((rd_T33 t274 x24_6).f1)], .int .u64 a3] rfl (by (try simp only [List.map_toArray, List.map_cons, List.map_nil]); first | done | rfl | (simp only [List.length_drop, List.length_take]; rfl)) ?_; (with_reducible refine (cover_Has.calls ((rd_T33 t274 x24_6).f0) ((rd_T33 t274 x24_6).f1) a3 false _ A57.out).mono ?_); rintro e w60 ⟨rfl, hb⟩; refine ⟨_, rfl, ?_⟩; have n0_ := Aside0.mk (Kd.R_below (by (with_reducible repeat (first | apply Kd.R_alloc | apply Kd.R_drewN | apply Kd.R_drew)); exact HO_11.out) hb); have n1_ := Aside0.mk (Kd.C_below (by repeat (first | (with_reducible exact HR287.out) | (with_reducible refine Kd.C_alloc ?_ _) | (with_reducible refine Kd.C_drewN ?_ _) | (with_reducible refine Kd.C_drew ?_) | exact HR287.out)) hb); have n2_ := Aside0.mk (below_step (by repeat (first | (with_reducible first | exact HB.out | apply below_alloc | apply pw_below_drewN | apply below_drew1) | exact HB.out)) hb); clear HO_11; clear HR287; clear HB; have HO_11 := n0_; have HR287 := n1_; have HB := n2_; clear n0_ n1_ n2_; (try clear hb); (try clear hb2); (try clear hk); (try clear hi)))
                                                go_roundg k6
                                                case measure => have := HJ11.out; have := HK2.out; have := HJ21.out; have := HJ40.out; have := HK5.out; have := HK6.out; omega
                                                case rel => exact ⟨(x22_6), (wrap64 (x24_6 + 1)), (by first | rfl | (simp; done) | (simp [*]; done)), (by first | rfl | (simp; done) | (simp [*]; done)), H', ⟨by have := HJ11.out; have := HK2.out; have := HJ21.out; have := HJ40.out; have := HK5.out; have := HK6.out; omega⟩, ⟨by (with_reducible repeat (first | apply Kd.R_alloc | apply Kd.R_drewN | apply Kd.R_drew)); exact HO_11.out⟩, ⟨by repeat (first | (with_reducible exact HR287.out) | (with_reducible refine Kd.C_alloc ?_ _) | (with_reducible refine Kd.C_drewN ?_ _) | (with_reducible refine Kd.C_drew ?_) | exact HR287.out)⟩, ⟨by repeat (first | (with_reducible first | exact HB.out | apply below_alloc | apply pw_below_drewN | apply below_drew1) | exact HB.out)⟩⟩
                                            · rw [if_neg c56] at H
                                              exact absurd H (by simp)
                                          · rw [if_neg c55] at H
                                            have c55b0 : decide (x24_6 < (t274.length : Int)) = false := decide_eq_false c55
                                            clear c55
                                            by_cases c61 : a3 ≥ a1
                                            · rw [if_pos c61] at H
                                              have c61b0 : decide (a1 ≤ a3) = true := decide_eq_true c61
                                              clear c61
                                              by_cases c62 : ((x21_5 == 1) == (decide (a3 < a2))) = true
                                              · rw [if_pos c62] at H
                                                have c62b0 : ((x21_5 == 1) == (decide (a3 < a2))) = true := c62
                                                (try (have c62b1 : decide ((x21_5 == 1) = (decide (a3 < a2))) = true := by simpa using c62))
                                                (try (have c62b2 : ((x21_5 == 1) == (decide (a3 < a2))) = true := by simpa using c62))
                                                clear c62
                                                by_cases c63 : a3 < a2
                                                · rw [if_pos c63] at H
                                                  have c63b0 : decide (a3 < a2) = true := decide_eq_true c63
                                                  have c62yc63 : (x21_5 == 1) = true := by have h_ := c62b0; rw [c63b0] at h_; simpa using h_
                                                  have c62zc63 : decide (x21_5 = 1) = true := by simpa using c62yc63
                                                  clear c63
                                                  by_cases c64 : ((x22_6 == 1) == false) = true
                                                  · rw [if_pos c64] at H
                                                    have c64b0 : ((x22_6 == 1) == false) = true := c64
                                                    (try (have c64b1 : decide ((x22_6 == 1) = false) = true := by simpa using c64))
                                                    (try (have c64b2 : ((x22_6 == 1) == false) = true := by simpa using c64))
                                                    clear c64
                                                    by_cases c65 : x21_5 ≤ 1
                                                    · rw [if_pos c65] at H
                                                      have c65b0 : decide (x21_5 ≤ 1) = true := decide_eq_true c65
                                                      clear c65
                                                      obtain rfl := Option.some.inj H
                                                      go_wp2
                                                      go_ret
                                                      exact ⟨by first | rfl | (simp [errW_none, errW_some] <;> rfl) | (simp [*, errW_none, errW_some] <;> rfl), by repeat (first | (with_reducible first | exact HB.out | apply below_alloc | apply pw_below_drewN | apply below_drew1) | exact HB.out)⟩
                                                    · rw [if_neg c65] at H
                                                      have c65b0 : decide (x21_5 ≤ 1) = false := decide_eq_false c65
                                                      clear c65
                                                      obtain rfl := Option.some.inj H
                                                      go_wp2
                                                      go_ret
                                                      exact ⟨by first | rfl | (simp [errW_none, errW_some] <;> rfl) | (simp [*, errW_none, errW_some] <;> rfl), by repeat (first | (with_reducible first | exact HB.out | apply below_alloc | apply pw_below_drewN | apply below_drew1) | exact HB.out)⟩
                                                  · rw [if_neg c64] at H
                                                    have c64b0 : ((x22_6 == 1) == false) = false := by simpa using c64
                                                    (try (have c64b1 : decide ((x22_6 == 1) = false) = false := by simpa using c64))
                                                    (try (have c64b2 : ((x22_6 == 1) == false) = false := by simpa using c64))
                                                    (try (have c64b3 : ¬ ((x22_6 == 1) = false) := by simpa using c64))
                                                    clear c64
                                                    obtain rfl := Option.some.inj H
                                                    go_wp2
                                                    go_ret
                                                    exact ⟨by first | rfl | (simp [errW_none, errW_some] <;> rfl) | (simp [*, errW_none, errW_some] <;> rfl), by repeat (first | (with_reducible first | exact HB.out | apply below_alloc | apply pw_below_drewN | apply below_drew1) | exact HB.out)⟩
                                                · rw [if_neg c63] at H
                                                  have c63b0 : decide (a3 < a2) = false := decide_eq_false c63
                                                  have c62yc63 : (x21_5 == 1) = false := by have h_ := c62b0; rw [c63b0] at h_; simpa using h_
                                                  have c62zc63 : decide (x21_5 = 1) = false := by simpa using c62yc63
                                                  clear c63
                                                  replace H := Option.bind_eq_some_iff.mp H
                                                  obtain ⟨t295, A660, H⟩ := H
                                                  replace H : (if ((x22_6 == 1) == (decide (a3 < t295))) = true then (if x21_5 ≤ 1 then (some (decide (x22_6 ≤ 1))) else (some false)) else (some false)) = some r := H
                                                  have A66 := Aside0.mk A660
                                                  clear A660
                                                  by_cases c67 : ((x22_6 == 1) == (decide (a3 < t295))) = true
                                                  · rw [if_pos c67] at H
                                                    have c67b0 : ((x22_6 == 1) == (decide (a3 < t295))) = true := c67
                                                    (try (have c67b1 : decide ((x22_6 == 1) = (decide (a3 < t295))) = true := by simpa using c67))
                                                    (try (have c67b2 : ((x22_6 == 1) == (decide (a3 < t295))) = true := by simpa using c67))
                                                    clear c67
                                                    by_cases c68 : x21_5 ≤ 1
                                                    · rw [if_pos c68] at H
                                                      have c68b0 : decide (x21_5 ≤ 1) = true := decide_eq_true c68
                                                      clear c68
                                                      obtain rfl := Option.some.inj H
                                                      go_wp2_with (first | (go_at_call 18; (with_reducible refine (paymasterlaw20_two.calls a0 t295 _ A66.out).mono ?_); rintro e w' ⟨rfl, ⟨nd, rfl⟩⟩))
                                                      go_ret
                                                      exact ⟨by first | rfl | (simp [errW_none, errW_some] <;> rfl) | (simp [*, errW_none, errW_some] <;> rfl), by repeat (first | (with_reducible first | exact HB.out | apply below_alloc | apply pw_below_drewN | apply below_drew1) | exact HB.out)⟩
                                                    · rw [if_neg c68] at H
                                                      have c68b0 : decide (x21_5 ≤ 1) = false := decide_eq_false c68
                                                      clear c68
                                                      obtain rfl := Option.some.inj H
                                                      go_wp2_with (first | (go_at_call 18; (with_reducible refine (paymasterlaw20_two.calls a0 t295 _ A66.out).mono ?_); rintro e w' ⟨rfl, ⟨nd, rfl⟩⟩))
                                                      go_ret
                                                      exact ⟨by first | rfl | (simp [errW_none, errW_some] <;> rfl) | (simp [*, errW_none, errW_some] <;> rfl), by repeat (first | (with_reducible first | exact HB.out | apply below_alloc | apply pw_below_drewN | apply below_drew1) | exact HB.out)⟩
                                                  · rw [if_neg c67] at H
                                                    have c67b0 : ((x22_6 == 1) == (decide (a3 < t295))) = false := by simpa using c67
                                                    (try (have c67b1 : decide ((x22_6 == 1) = (decide (a3 < t295))) = false := by simpa using c67))
                                                    (try (have c67b2 : ((x22_6 == 1) == (decide (a3 < t295))) = false := by simpa using c67))
                                                    (try (have c67b3 : ¬ ((x22_6 == 1) = (decide (a3 < t295))) := by simpa using c67))
                                                    clear c67
                                                    obtain rfl := Option.some.inj H
                                                    go_wp2_with (first | (go_at_call 18; (with_reducible refine (paymasterlaw20_two.calls a0 t295 _ A66.out).mono ?_); rintro e w' ⟨rfl, ⟨nd, rfl⟩⟩))
                                                    go_ret
                                                    exact ⟨by first | rfl | (simp [errW_none, errW_some] <;> rfl) | (simp [*, errW_none, errW_some] <;> rfl), by repeat (first | (with_reducible first | exact HB.out | apply below_alloc | apply pw_below_drewN | apply below_drew1) | exact HB.out)⟩
                                              · rw [if_neg c62] at H
                                                have c62b0 : ((x21_5 == 1) == (decide (a3 < a2))) = false := by simpa using c62
                                                (try (have c62b1 : decide ((x21_5 == 1) = (decide (a3 < a2))) = false := by simpa using c62))
                                                (try (have c62b2 : ((x21_5 == 1) == (decide (a3 < a2))) = false := by simpa using c62))
                                                (try (have c62b3 : ¬ ((x21_5 == 1) = (decide (a3 < a2))) := by simpa using c62))
                                                clear c62
                                                obtain rfl := Option.some.inj H
                                                go_wp2
                                                go_ret
                                                exact ⟨by first | rfl | (simp [errW_none, errW_some] <;> rfl) | (simp [*, errW_none, errW_some] <;> rfl), by repeat (first | (with_reducible first | exact HB.out | apply below_alloc | apply pw_below_drewN | apply below_drew1) | exact HB.out)⟩
                                            · rw [if_neg c61] at H
                                              have c61b0 : decide (a1 ≤ a3) = false := decide_eq_false c61
                                              clear c61
                                              by_cases c69 : ((x21_5 == 1) == false) = true
                                              · rw [if_pos c69] at H
                                                have c69b0 : ((x21_5 == 1) == false) = true := c69
                                                (try (have c69b1 : decide ((x21_5 == 1) = false) = true := by simpa using c69))
                                                (try (have c69b2 : ((x21_5 == 1) == false) = true := by simpa using c69))
                                                clear c69
                                                replace H := Option.bind_eq_some_iff.mp H
                                                obtain ⟨t296, A700, H⟩ := H
                                                replace H : (if ((x22_6 == 1) == (decide (a3 < t296))) = true then (if x21_5 ≤ 1 then (some (decide (x22_6 ≤ 1))) else (some false)) else (some false)) = some r := H
                                                have A70 := Aside0.mk A700
                                                clear A700
                                                by_cases c71 : ((x22_6 == 1) == (decide (a3 < t296))) = true
                                                · rw [if_pos c71] at H
                                                  have c71b0 : ((x22_6 == 1) == (decide (a3 < t296))) = true := c71
                                                  (try (have c71b1 : decide ((x22_6 == 1) = (decide (a3 < t296))) = true := by simpa using c71))
                                                  (try (have c71b2 : ((x22_6 == 1) == (decide (a3 < t296))) = true := by simpa using c71))
                                                  clear c71
                                                  by_cases c72 : x21_5 ≤ 1
                                                  · rw [if_pos c72] at H
                                                    have c72b0 : decide (x21_5 ≤ 1) = true := decide_eq_true c72
                                                    clear c72
                                                    obtain rfl := Option.some.inj H
                                                    go_wp2_with (first | (go_at_call 18; (with_reducible refine (paymasterlaw20_two.calls a0 t296 _ A70.out).mono ?_); rintro e w' ⟨rfl, ⟨nd, rfl⟩⟩))
                                                    go_ret
                                                    exact ⟨by first | rfl | (simp [errW_none, errW_some] <;> rfl) | (simp [*, errW_none, errW_some] <;> rfl), by repeat (first | (with_reducible first | exact HB.out | apply below_alloc | apply pw_below_drewN | apply below_drew1) | exact HB.out)⟩
                                                  · rw [if_neg c72] at H
                                                    have c72b0 : decide (x21_5 ≤ 1) = false := decide_eq_false c72
                                                    clear c72
                                                    obtain rfl := Option.some.inj H
                                                    go_wp2_with (first | (go_at_call 18; (with_reducible refine (paymasterlaw20_two.calls a0 t296 _ A70.out).mono ?_); rintro e w' ⟨rfl, ⟨nd, rfl⟩⟩))
                                                    go_ret
                                                    exact ⟨by first | rfl | (simp [errW_none, errW_some] <;> rfl) | (simp [*, errW_none, errW_some] <;> rfl), by repeat (first | (with_reducible first | exact HB.out | apply below_alloc | apply pw_below_drewN | apply below_drew1) | exact HB.out)⟩
                                                · rw [if_neg c71] at H
                                                  have c71b0 : ((x22_6 == 1) == (decide (a3 < t296))) = false := by simpa using c71
                                                  (try (have c71b1 : decide ((x22_6 == 1) = (decide (a3 < t296))) = false := by simpa using c71))
                                                  (try (have c71b2 : ((x22_6 == 1) == (decide (a3 < t296))) = false := by simpa using c71))
                                                  (try (have c71b3 : ¬ ((x22_6 == 1) = (decide (a3 < t296))) := by simpa using c71))
                                                  clear c71
                                                  obtain rfl := Option.some.inj H
                                                  go_wp2_with (first | (go_at_call 18; (with_reducible refine (paymasterlaw20_two.calls a0 t296 _ A70.out).mono ?_); rintro e w' ⟨rfl, ⟨nd, rfl⟩⟩))
                                                  go_ret
                                                  exact ⟨by first | rfl | (simp [errW_none, errW_some] <;> rfl) | (simp [*, errW_none, errW_some] <;> rfl), by repeat (first | (with_reducible first | exact HB.out | apply below_alloc | apply pw_below_drewN | apply below_drew1) | exact HB.out)⟩
                                              · rw [if_neg c69] at H
                                                have c69b0 : ((x21_5 == 1) == false) = false := by simpa using c69
                                                (try (have c69b1 : decide ((x21_5 == 1) = false) = false := by simpa using c69))
                                                (try (have c69b2 : ((x21_5 == 1) == false) = false := by simpa using c69))
                                                (try (have c69b3 : ¬ ((x21_5 == 1) = false) := by simpa using c69))
                                                clear c69
                                                obtain rfl := Option.some.inj H
                                                go_wp2
                                                go_ret
                                                exact ⟨by first | rfl | (simp [errW_none, errW_some] <;> rfl) | (simp [*, errW_none, errW_some] <;> rfl), by repeat (first | (with_reducible first | exact HB.out | apply below_alloc | apply pw_below_drewN | apply below_drew1) | exact HB.out)⟩
                        · rw [if_neg c39] at H
                          exact absurd H (by simp)
                      · rw [if_neg c38] at H
                        exact absurd H (by simp)
    · replace c10 := Bool.eq_false_iff.mpr c10
      subst c10
      have H1 : (if t271 = 0 then (some false) else (if t275 = t271 then (some ((wrap64 ((t270.length : Int) + (t274.length : Int))) == 0)) else (some false))) = some r := by rw [if_neg (show ¬ (false = true) by decide)] at H; exact H
      clear H
      have H := H1
      clear H1
      by_cases c73 : t271 = 0
      · rw [if_pos c73] at H
        have c73b0 : (t271 == 0) = true := beq_iff_eq.mpr c73
        have c73b1 : (t271 != 0) = false := bne_eq_false_iff_eq.mpr c73
        clear c73
        obtain rfl := Option.some.inj H
        go_enter Tryd.func6, Tryd.ntmps6
        go_wp2_with (first | ((with_reducible refine gate_callee (f := 14) rfl ?_); refine goesL_ (some 26) rfl rfl Tryd.func14 (by kernel_rfl) rfl #[] rfl (by (try simp only [List.map_toArray, List.map_cons, List.map_nil]); first | done | rfl | (simp only [List.length_drop, List.length_take]; rfl)) ?_; (with_reducible refine (paymasterlaw20_awake.calls k  true _ ?side1 A5.out).mono ?_); (case side1 => first | exact HG.out | exact GTab.below (w := w) HG.out (by repeat (first | (with_reducible first | exact HB.out | apply below_alloc | apply pw_below_drewN | apply below_drew1) | exact HB.out))); rintro e w74 ⟨rfl, hb⟩; refine ⟨_, rfl, ?_⟩; have n0_ := Aside0.mk (below_step (by repeat (first | (with_reducible first | exact HB.out | apply below_alloc | apply pw_below_drewN | apply below_drew1) | exact HB.out)) hb); clear HB; have HB := n0_; clear n0_; (try clear hb); (try clear hb2); (try clear hk); (try clear hi)) | ((with_reducible refine gate_callee (f := 7) rfl ?_); refine goesL_ (some 32) rfl rfl Tryd.func7 (by kernel_rfl) rfl #[.int .i64 a0, .int .u64 a1, .int .u64 a2] rfl (by (try simp only [List.map_toArray, List.map_cons, List.map_nil]); first | done | rfl | (simp only [List.length_drop, List.length_take]; rfl)) ?_; (with_reducible refine (cover_Of.calls k a0 a1 a2 t270 t271 _ ?side1 A7.out).mono ?_); (case side1 => first | exact HG.out | exact GTab.below (w := w) HG.out (by repeat (first | (with_reducible first | exact HB.out | apply below_alloc | apply pw_below_drewN | apply below_drew1) | exact HB.out))); rintro e w75 ⟨v272, rfl, ho0, hb⟩; refine ⟨_, rfl, ?_⟩; have n0_ := Aside0.mk (Kd.R_lower ho0 (below_size (by repeat (first | (with_reducible first | exact HB.out | apply below_alloc | apply pw_below_drewN | apply below_drew1) | exact HB.out)))); have n1_ := Aside0.mk (below_step (by repeat (first | (with_reducible first | exact HB.out | apply below_alloc | apply pw_below_drewN | apply below_drew1) | exact HB.out)) hb); clear HB; have HO273 := n0_; have HB := n1_; clear n0_ n1_; (try clear hb); (try clear hb2); (try clear hk); (try clear hi); (try clear ho0)) | ((with_reducible refine gate_callee (f := 9) rfl ?_); refine goesL_ (some 39) rfl rfl Tryd.func9 (by kernel_rfl) rfl #[.int .i64 a0, .int .u64 a1, .int .u64 a2] rfl (by (try simp only [List.map_toArray, List.map_cons, List.map_nil]); first | done | rfl | (simp only [List.length_drop, List.length_take]; rfl)) ?_; (with_reducible refine (cover_Out.calls k a0 a1 a2 t274 t275 _ ?side1 A8.out).mono ?_); (case side1 => first | exact HG.out | exact GTab.below (w := w) HG.out (by repeat (first | (with_reducible first | exact HB.out | apply below_alloc | apply pw_below_drewN | apply below_drew1) | exact HB.out))); rintro e w76 ⟨v276, rfl, ho0, hb⟩; refine ⟨_, rfl, ?_⟩; have n0_ := Aside0.mk (Kd.R_elder' (by (with_reducible repeat (first | apply Kd.R_alloc | apply Kd.R_drewN | apply Kd.R_drew)); exact HO273.out) (Kd.R_base ho0) hb); have n1_ := Aside0.mk (Kd.R_lower (Kd.R_new' ho0 (Kd.R_lt (by (with_reducible repeat (first | apply Kd.R_alloc | apply Kd.R_drewN | apply Kd.R_drew)); exact HO273.out))) (below_size (by repeat (first | (with_reducible first | exact HB.out | apply below_alloc | apply pw_below_drewN | apply below_drew1) | exact HB.out)))); have n2_ := Aside0.mk (below_step (by repeat (first | (with_reducible first | exact HB.out | apply below_alloc | apply pw_below_drewN | apply below_drew1) | exact HB.out)) hb); clear HO273; clear HB; have HO273 := n0_; have HO277 := n1_; have HB := n2_; clear n0_ n1_ n2_; (try clear hb); (try clear hb2); (try clear hk); (try clear hi); (try clear ho0)) | ((with_reducible refine gate_callee (f := 12) rfl ?_); refine goesL_ (some 45) rfl rfl Tryd.func12 (by kernel_rfl) rfl #[.int .i64 a0, .int .u64 a1, .int .u64 a2] rfl (by (try simp only [List.map_toArray, List.map_cons, List.map_nil]); first | done | rfl | (simp only [List.length_drop, List.length_take]; rfl)) ?_; (with_reducible refine (cover_May.calls a0 a1 a2 false _ A9.out).mono ?_); rintro e w' ⟨rfl, ⟨nd, rfl⟩⟩; refine ⟨_, rfl, ?_⟩))
        go_ret
        exact ⟨by first | rfl | (simp [errW_none, errW_some] <;> rfl) | (simp [*, errW_none, errW_some] <;> rfl), by repeat (first | (with_reducible first | exact HB.out | apply below_alloc | apply pw_below_drewN | apply below_drew1) | exact HB.out)⟩
      · rw [if_neg c73] at H
        have c73b0 : (t271 == 0) = false := beq_eq_false_iff_ne.mpr c73
        have c73b1 : (t271 != 0) = true := bne_iff_ne.mpr c73
        by_cases c77 : t275 = t271
        · rw [if_pos c77] at H
          have c77b0 : (t275 == t271) = true := beq_iff_eq.mpr c77
          have c77b1 : (t275 != t271) = false := bne_eq_false_iff_eq.mpr c77
          clear c77
          obtain rfl := Option.some.inj H
          go_enter Tryd.func6, Tryd.ntmps6
          go_wp2_with (first | ((with_reducible refine gate_callee (f := 14) rfl ?_); refine goesL_ (some 26) rfl rfl Tryd.func14 (by kernel_rfl) rfl #[] rfl (by (try simp only [List.map_toArray, List.map_cons, List.map_nil]); first | done | rfl | (simp only [List.length_drop, List.length_take]; rfl)) ?_; (with_reducible refine (paymasterlaw20_awake.calls k  true _ ?side1 A5.out).mono ?_); (case side1 => first | exact HG.out | exact GTab.below (w := w) HG.out (by repeat (first | (with_reducible first | exact HB.out | apply below_alloc | apply pw_below_drewN | apply below_drew1) | exact HB.out))); rintro e w78 ⟨rfl, hb⟩; refine ⟨_, rfl, ?_⟩; have n0_ := Aside0.mk (below_step (by repeat (first | (with_reducible first | exact HB.out | apply below_alloc | apply pw_below_drewN | apply below_drew1) | exact HB.out)) hb); clear HB; have HB := n0_; clear n0_; (try clear hb); (try clear hb2); (try clear hk); (try clear hi)) | ((with_reducible refine gate_callee (f := 7) rfl ?_); refine goesL_ (some 32) rfl rfl Tryd.func7 (by kernel_rfl) rfl #[.int .i64 a0, .int .u64 a1, .int .u64 a2] rfl (by (try simp only [List.map_toArray, List.map_cons, List.map_nil]); first | done | rfl | (simp only [List.length_drop, List.length_take]; rfl)) ?_; (with_reducible refine (cover_Of.calls k a0 a1 a2 t270 t271 _ ?side1 A7.out).mono ?_); (case side1 => first | exact HG.out | exact GTab.below (w := w) HG.out (by repeat (first | (with_reducible first | exact HB.out | apply below_alloc | apply pw_below_drewN | apply below_drew1) | exact HB.out))); rintro e w79 ⟨v272, rfl, ho0, hb⟩; refine ⟨_, rfl, ?_⟩; have n0_ := Aside0.mk (Kd.R_lower ho0 (below_size (by repeat (first | (with_reducible first | exact HB.out | apply below_alloc | apply pw_below_drewN | apply below_drew1) | exact HB.out)))); have n1_ := Aside0.mk (below_step (by repeat (first | (with_reducible first | exact HB.out | apply below_alloc | apply pw_below_drewN | apply below_drew1) | exact HB.out)) hb); clear HB; have HO273 := n0_; have HB := n1_; clear n0_ n1_; (try clear hb); (try clear hb2); (try clear hk); (try clear hi); (try clear ho0)) | ((with_reducible refine gate_callee (f := 9) rfl ?_); refine goesL_ (some 39) rfl rfl Tryd.func9 (by kernel_rfl) rfl #[.int .i64 a0, .int .u64 a1, .int .u64 a2] rfl (by (try simp only [List.map_toArray, List.map_cons, List.map_nil]); first | done | rfl | (simp only [List.length_drop, List.length_take]; rfl)) ?_; (with_reducible refine (cover_Out.calls k a0 a1 a2 t274 t275 _ ?side1 A8.out).mono ?_); (case side1 => first | exact HG.out | exact GTab.below (w := w) HG.out (by repeat (first | (with_reducible first | exact HB.out | apply below_alloc | apply pw_below_drewN | apply below_drew1) | exact HB.out))); rintro e w80 ⟨v276, rfl, ho0, hb⟩; refine ⟨_, rfl, ?_⟩; have n0_ := Aside0.mk (Kd.R_elder' (by (with_reducible repeat (first | apply Kd.R_alloc | apply Kd.R_drewN | apply Kd.R_drew)); exact HO273.out) (Kd.R_base ho0) hb); have n1_ := Aside0.mk (Kd.R_lower (Kd.R_new' ho0 (Kd.R_lt (by (with_reducible repeat (first | apply Kd.R_alloc | apply Kd.R_drewN | apply Kd.R_drew)); exact HO273.out))) (below_size (by repeat (first | (with_reducible first | exact HB.out | apply below_alloc | apply pw_below_drewN | apply below_drew1) | exact HB.out)))); have n2_ := Aside0.mk (below_step (by repeat (first | (with_reducible first | exact HB.out | apply below_alloc | apply pw_below_drewN | apply below_drew1) | exact HB.out)) hb); clear HO273; clear HB; have HO273 := n0_; have HO277 := n1_; have HB := n2_; clear n0_ n1_ n2_; (try clear hb); (try clear hb2); (try clear hk); (try clear hi); (try clear ho0)) | ((with_reducible refine gate_callee (f := 12) rfl ?_); refine goesL_ (some 45) rfl rfl Tryd.func12 (by kernel_rfl) rfl #[.int .i64 a0, .int .u64 a1, .int .u64 a2] rfl (by (try simp only [List.map_toArray, List.map_cons, List.map_nil]); first | done | rfl | (simp only [List.length_drop, List.length_take]; rfl)) ?_; (with_reducible refine (cover_May.calls a0 a1 a2 false _ A9.out).mono ?_); rintro e w' ⟨rfl, ⟨nd, rfl⟩⟩; refine ⟨_, rfl, ?_⟩; obtain ⟨Ao81, co81, eo81⟩ := Kd.R_slice HO273.out; subst eo81; obtain ⟨Ao82, co82, eo82⟩ := Kd.R_slice HO277.out; subst eo82))
          go_ret
          exact ⟨by first | rfl | (simp [errW_none, errW_some] <;> rfl) | (simp [*, errW_none, errW_some] <;> rfl), by repeat (first | (with_reducible first | exact HB.out | apply below_alloc | apply pw_below_drewN | apply below_drew1) | exact HB.out)⟩
        · rw [if_neg c77] at H
          have c77b0 : (t275 == t271) = false := beq_eq_false_iff_ne.mpr c77
          have c77b1 : (t275 != t271) = true := bne_iff_ne.mpr c77
          obtain rfl := Option.some.inj H
          go_enter Tryd.func6, Tryd.ntmps6
          go_wp2_with (first | ((with_reducible refine gate_callee (f := 14) rfl ?_); refine goesL_ (some 26) rfl rfl Tryd.func14 (by kernel_rfl) rfl #[] rfl (by (try simp only [List.map_toArray, List.map_cons, List.map_nil]); first | done | rfl | (simp only [List.length_drop, List.length_take]; rfl)) ?_; (with_reducible refine (paymasterlaw20_awake.calls k  true _ ?side1 A5.out).mono ?_); (case side1 => first | exact HG.out | exact GTab.below (w := w) HG.out (by repeat (first | (with_reducible first | exact HB.out | apply below_alloc | apply pw_below_drewN | apply below_drew1) | exact HB.out))); rintro e w83 ⟨rfl, hb⟩; refine ⟨_, rfl, ?_⟩; have n0_ := Aside0.mk (below_step (by repeat (first | (with_reducible first | exact HB.out | apply below_alloc | apply pw_below_drewN | apply below_drew1) | exact HB.out)) hb); clear HB; have HB := n0_; clear n0_; (try clear hb); (try clear hb2); (try clear hk); (try clear hi)) | ((with_reducible refine gate_callee (f := 7) rfl ?_); refine goesL_ (some 32) rfl rfl Tryd.func7 (by kernel_rfl) rfl #[.int .i64 a0, .int .u64 a1, .int .u64 a2] rfl (by (try simp only [List.map_toArray, List.map_cons, List.map_nil]); first | done | rfl | (simp only [List.length_drop, List.length_take]; rfl)) ?_; (with_reducible refine (cover_Of.calls k a0 a1 a2 t270 t271 _ ?side1 A7.out).mono ?_); (case side1 => first | exact HG.out | exact GTab.below (w := w) HG.out (by repeat (first | (with_reducible first | exact HB.out | apply below_alloc | apply pw_below_drewN | apply below_drew1) | exact HB.out))); rintro e w84 ⟨v272, rfl, ho0, hb⟩; refine ⟨_, rfl, ?_⟩; have n0_ := Aside0.mk (Kd.R_lower ho0 (below_size (by repeat (first | (with_reducible first | exact HB.out | apply below_alloc | apply pw_below_drewN | apply below_drew1) | exact HB.out)))); have n1_ := Aside0.mk (below_step (by repeat (first | (with_reducible first | exact HB.out | apply below_alloc | apply pw_below_drewN | apply below_drew1) | exact HB.out)) hb); clear HB; have HO273 := n0_; have HB := n1_; clear n0_ n1_; (try clear hb); (try clear hb2); (try clear hk); (try clear hi); (try clear ho0)) | ((with_reducible refine gate_callee (f := 9) rfl ?_); refine goesL_ (some 39) rfl rfl Tryd.func9 (by kernel_rfl) rfl #[.int .i64 a0, .int .u64 a1, .int .u64 a2] rfl (by (try simp only [List.map_toArray, List.map_cons, List.map_nil]); first | done | rfl | (simp only [List.length_drop, List.length_take]; rfl)) ?_; (with_reducible refine (cover_Out.calls k a0 a1 a2 t274 t275 _ ?side1 A8.out).mono ?_); (case side1 => first | exact HG.out | exact GTab.below (w := w) HG.out (by repeat (first | (with_reducible first | exact HB.out | apply below_alloc | apply pw_below_drewN | apply below_drew1) | exact HB.out))); rintro e w85 ⟨v276, rfl, ho0, hb⟩; refine ⟨_, rfl, ?_⟩; have n0_ := Aside0.mk (Kd.R_elder' (by (with_reducible repeat (first | apply Kd.R_alloc | apply Kd.R_drewN | apply Kd.R_drew)); exact HO273.out) (Kd.R_base ho0) hb); have n1_ := Aside0.mk (Kd.R_lower (Kd.R_new' ho0 (Kd.R_lt (by (with_reducible repeat (first | apply Kd.R_alloc | apply Kd.R_drewN | apply Kd.R_drew)); exact HO273.out))) (below_size (by repeat (first | (with_reducible first | exact HB.out | apply below_alloc | apply pw_below_drewN | apply below_drew1) | exact HB.out)))); have n2_ := Aside0.mk (below_step (by repeat (first | (with_reducible first | exact HB.out | apply below_alloc | apply pw_below_drewN | apply below_drew1) | exact HB.out)) hb); clear HO273; clear HB; have HO273 := n0_; have HO277 := n1_; have HB := n2_; clear n0_ n1_ n2_; (try clear hb); (try clear hb2); (try clear hk); (try clear hi); (try clear ho0)) | ((with_reducible refine gate_callee (f := 12) rfl ?_); refine goesL_ (some 45) rfl rfl Tryd.func12 (by kernel_rfl) rfl #[.int .i64 a0, .int .u64 a1, .int .u64 a2] rfl (by (try simp only [List.map_toArray, List.map_cons, List.map_nil]); first | done | rfl | (simp only [List.length_drop, List.length_take]; rfl)) ?_; (with_reducible refine (cover_May.calls a0 a1 a2 false _ A9.out).mono ?_); rintro e w' ⟨rfl, ⟨nd, rfl⟩⟩; refine ⟨_, rfl, ?_⟩))
          go_ret
          exact ⟨by first | rfl | (simp [errW_none, errW_some] <;> rfl) | (simp [*, errW_none, errW_some] <;> rfl), by repeat (first | (with_reducible first | exact HB.out | apply below_alloc | apply pw_below_drewN | apply below_drew1) | exact HB.out)⟩
  · replace c6 := Bool.eq_false_iff.mpr c6
    subst c6
    have H1 : (some false) = some r := by rw [if_neg (show ¬ (false = true) by decide)] at H; exact H
    clear H
    have H := H1
    clear H1
    obtain rfl := Option.some.inj H
    go_enter Tryd.func6, Tryd.ntmps6
    go_wp2_with (first | ((with_reducible refine gate_callee (f := 14) rfl ?_); refine goesL_ (some 26) rfl rfl Tryd.func14 (by kernel_rfl) rfl #[] rfl (by (try simp only [List.map_toArray, List.map_cons, List.map_nil]); first | done | rfl | (simp only [List.length_drop, List.length_take]; rfl)) ?_; (with_reducible refine (paymasterlaw20_awake.calls k  false _ ?side1 A5.out).mono ?_); (case side1 => first | exact HG.out | exact GTab.below (w := w) HG.out (by repeat (first | (with_reducible first | exact HB.out | apply below_alloc | apply pw_below_drewN | apply below_drew1) | exact HB.out))); rintro e w86 ⟨rfl, hb⟩; refine ⟨_, rfl, ?_⟩; have n0_ := Aside0.mk (below_step (by repeat (first | (with_reducible first | exact HB.out | apply below_alloc | apply pw_below_drewN | apply below_drew1) | exact HB.out)) hb); clear HB; have HB := n0_; clear n0_; (try clear hb); (try clear hb2); (try clear hk); (try clear hi)))
    go_ret
    exact ⟨by first | rfl | (simp [errW_none, errW_some] <;> rfl) | (simp [*, errW_none, errW_some] <;> rfl), by repeat (first | (with_reducible first | exact HB.out | apply below_alloc | apply pw_below_drewN | apply below_drew1) | exact HB.out)⟩

/-- THE ONE PURE STATEMENT of paymasterlaw20_CoverAll: yours. -/
def paymasterlaw20_CoverAll.Pure : Prop := ∀ (a0 : Int) (a1 : Int) (a2 : Int) (a3 : Int), (Lit.int .i64 a0).wf = true → (Lit.int .u64 a1).wf = true → (Lit.int .u64 a2).wf = true → (Lit.int .u64 a3).wf = true → ∃ k, paymasterlaw20_CoverAll.f k a0 a1 a2 a3 = some true
theorem paymasterlaw20_CoverAll.walk (P : paymasterlaw20_CoverAll.Pure) (a0 : Int) (a1 : Int) (a2 : Int) (a3 : Int) (w : World) (hGT : GTab w) (w0 : (Lit.int .i64 a0).wf = true) (w1 : (Lit.int .u64 a1).wf = true) (w2 : (Lit.int .u64 a2).wf = true) (w3 : (Lit.int .u64 a3).wf = true) :
    Calls Tryd.prog 6 #[.int .i64 a0, .int .u64 a1, .int .u64 a2, .int .u64 a3] w fun e w' => e = .returned (.bool true) ∧ Below w.heap.size w w' := by
  obtain ⟨k, h⟩ := P a0 a1 a2 a3 w0 w1 w2 w3
  refine (paymasterlaw20_CoverAll.calls k a0 a1 a2 a3 true w hGT h).mono ?_
  rintro e w' ⟨rfl, hd⟩
  exact ⟨rfl, hd⟩

end Go.Proofs.YtaeaacdjiijooaaDoor.Pr
