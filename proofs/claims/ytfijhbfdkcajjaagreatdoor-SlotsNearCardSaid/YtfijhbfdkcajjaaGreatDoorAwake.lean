/- awake where it answers true: cut out of the print by mk_awake.py. -/
import Derived.Test.YtfijhbfdkcajjaaGreatDoorQk
import Derived.Test.YtfijhbfdkcajjaaGreatDoorPrx1
import Derived.Test.YtfijhbfdkcajjaaGreatDoorPrx2
import Derived.Test.YtfijhbfdkcajjaaGreatDoorSmall
import Derived.Test.YtfijhbfdkcajjaaGreatDoorFree
import Derived.Test.YtfijhbfdkcajjaaGreatDoorPlaceF
namespace Go.Proofs.YtfijhbfdkcajjaaGreatDoor.Pr
open Go.RowKit Go.Proofs.YtfijhbfdkcajjaaGreatDoorW.PrintWords Go.Proofs.YtfijhbfdkcajjaaGreatDoorW.PrintLast Go.Proofs.YtfijhbfdkcajjaaGreatDoorW.PrintMore
attribute [local go_sem] max2_int min2_int max_two min_two max_three min_three max_four min_four   -- for this text's walks alone
set_option linter.unusedVariables false
set_option linter.unusedSimpArgs false

attribute [local go_sem high] eqA41
/-! ### awake0: function 14 -/
def awake0.f  : Option (Bool) := (u128_Of.f 5).bind fun bt114 => ((some (([(⟨(⟨#[97]⟩ : ByteArray), (⟨bt114.1, bt114.2⟩ : S39)⟩ : S45)] : List (S45)) : List (S45))).bind fun y116 => ((some (([] : List (S45)) : List (S45))).bind fun y119 => (if y119.length + y116.length < 4398046511104 then ((some (y119 ++ y116 : List (S45))).bind fun y122 => (if y122.length < 4398046511104 then ((some (y122 ++ [(⟨(⟨#[98]⟩ : ByteArray), (⟨0, 0⟩ : S39)⟩ : S45)] : List (S45))).bind fun y125 => ((slots_Place.f (⟨#[107]⟩ : ByteArray) 0 ([] : List (S41)) y116).bind fun bt128 => ((slots_Place.f (⟨#[107]⟩ : ByteArray) 0 ([] : List (S41)) y125).bind fun bt132 => ((slots_Place.f (⟨#[107]⟩ : ByteArray) 2 (([(⟨(⟨#[97]⟩ : ByteArray), (⟨0, 0⟩ : S39), (⟨#[115]⟩ : ByteArray), 3⟩ : S41)] : List (S41))) y125).bind fun bt139 => ((slots_Place.f (⟨#[107]⟩ : ByteArray) 11 ([] : List (S41)) y116).bind fun bt143 => ((slots_Free.f (([(⟨(⟨#[]⟩ : ByteArray), (⟨0, 0⟩ : S39), (⟨#[]⟩ : ByteArray), 3⟩ : S41), (⟨(⟨#[]⟩ : ByteArray), (⟨0, 0⟩ : S39), (⟨#[]⟩ : ByteArray), 0⟩ : S41)] : List (S41))) 2 3).bind fun bt150 => (if bt128.2 = 0 then (if (bt128.1.length : Int) = 1 then (if 0 < (bt128.1.length : Int) then ((u128_Of.f 5).bind fun bt153 => ((tag_Salt.f (⟨#[107]⟩ : ByteArray) (⟨#[97]⟩ : ByteArray)).bind fun t155 => (if ((((rd_T41 bt128.1 0).f0).toList) == ([97] : List UInt8) && ((((rd_T41 bt128.1 0).f1.f0) == bt153.1 && (((rd_T41 bt128.1 0).f1.f1) == bt153.2)) && ((((rd_T41 bt128.1 0).f2).toList) == t155.toList && (((rd_T41 bt128.1 0).f3) == 0)))) = true then (if bt132.2 = 111 then (if bt139.2 = 0 then (if (bt139.1.length : Int) = 2 then (if 0 < (bt139.1.length : Int) then ((u128_Of.f 5).bind fun bt157 => (if ((((rd_T41 bt139.1 0).f0).toList) == ([97] : List UInt8) && ((((rd_T41 bt139.1 0).f1.f0) == bt157.1 && (((rd_T41 bt139.1 0).f1.f1) == bt157.2)) && ((((rd_T41 bt139.1 0).f2).toList) == ([115] : List UInt8) && (((rd_T41 bt139.1 0).f3) == 3)))) = true then (if 1 < (bt139.1.length : Int) then (if ((rd_T41 bt139.1 1).f0).toList = ([98] : List UInt8) then (if ((rd_T41 bt139.1 1).f3) < 3 then (if bt143.2 = 120 then (if bt150.1 = 1 then (some bt150.2) else (some false)) else (some false)) else (some false)) else (some false)) else (none)) else (some false))) else (none)) else (some false)) else (some false)) else (some false)) else (some false)))) else (none)) else (some false)) else (some false)))))))) else (none))) else (none))))
def awake0.T8 : Bool × List (List Nat × List Nat) := (true, [([], []), ([0], [0]), ([1], [1]), ([2], [2]), ([3, 2], [2, 3]), ([4, 2], [2, 4]), ([2, 5], [2, 5]), ([6, 2], [6]), ([7], [7]), ([8, 7], [7, 8]), ([9, 7], [7, 9]), ([7, 7], [7]), ([11, 7], [7]), ([11, 12, 7], [7, 11, 12]), ([10, 13, 7], [7, 10, 13]), ([7, 14], [7, 14]), ([15, 12], [15]), ([16], [16]), ([17, 16], [16, 17]), ([16, 18], [16, 18]), ([19, 16], [19]), ([20], [20]), ([21, 20], [20, 21]), ([20, 22], [20, 22]), ([23, 20], [23]), ([24], [24]), ([25, 24], [24, 25]), ([26, 24], [24, 26]), ([24, 27], [24, 27]), ([28, 24], [28]), ([29], [29]), ([30, 29], [29, 30]), ([31, 29], [29, 31]), ([29, 29], [29]), ([33, 29], [29, 33]), ([32, 34, 29], [29, 32, 34]), ([29, 35], [29, 35]), ([36, 33], [36]), ([37], [37]), ([38, 37], [37, 38]), ([39, 37], [37, 39]), ([40, 37], [37, 40]), ([41, 37], [37, 41]), ([37, 42], [37, 42]), ([43, 37], [43]), ([44], [44]), ([45, 44], [44, 45]), ([46, 44], [44, 46]), ([47, 44], [44, 47]), ([48, 44], [44, 48]), ([44, 49], [44, 49]), ([50, 44], [50]), ([51], [51]), ([52, 51], [51, 52]), ([51, 53], [51, 53]), ([54, 51], [54]), ([55], [55]), ([56, 55], [55, 56]), ([55, 57], [55, 57]), ([58, 55], [58]), ([59], [59]), ([59, 60], [59, 60]), ([61, 59, 0, 1, 2, 3, 4, 5, 6, 7, 8, 9, 10, 11, 12, 13, 14, 15, 16, 17, 18, 19, 20, 21, 22, 23, 24, 25, 26, 27, 28, 29, 30, 31, 32, 33, 34, 35, 36, 37, 38, 39, 40, 41, 42, 43, 44, 45, 46, 47, 48, 49, 50, 51, 52, 53, 54, 55, 56, 57, 58, 59, 60, 61], [61])])
def awake0.B8 : List Nat := [0, 1, 3, 7, 15, 31, 63, 127, 255, 511, 1023, 255, 2303, 6399, 16383, 32767, 65535, 131071, 262143, 524287, 1048575, 2097151, 4194303, 8388607, 16777215, 33554431, 67108863, 134217727, 268435455, 536870911, 1073741823, 2147483647, 4294967295, 1073741823, 9663676415, 34359738367, 68719476735, 137438953471, 274877906943, 549755813887, 1099511627775, 2199023255551, 4398046511103, 8796093022207, 17592186044415, 35184372088831, 70368744177663, 140737488355327, 281474976710655, 562949953421311, 1125899906842623, 2251799813685247, 4503599627370495, 9007199254740991, 18014398509481983, 36028797018963967, 72057594037927935, 144115188075855871, 288230376151711743, 576460752303423487, 1152921504606846975, 2305843009213693951, 4611686018427387903]
theorem awake0.tab8 : rtab .any (opsOf Tryz.f14 8) = awake0.T8 := by kernel_rfl
theorem awake0.bits8 : waitsOk awake0.T8.2 awake0.B8 = true := by kernel_rfl
set_option maxHeartbeats 8000000 in
set_option maxRecDepth 100000 in
theorem awake0.calls  (r : Bool) (w : World) (hGT : GTab w) (h : awake0.f  = some r) (hrt : r = true) :
 Calls Tryz.prog 14 #[] w fun e w' => e = .returned (.bool r) ∧ Below w.heap.size w w' := by
 have HRT := Aside0.mk hrt
 clear hrt
 have hu45 := Tryz.underlying45
 have hu41 := Tryz.underlying41
 have HB := Aside0.mk (Below.refl w.heap.size w)
 have HG := Aside0.mk hGT
 clear hGT
 have H : ((u128_Of.f 5).bind fun bt114 => ((some (([(⟨(⟨#[97]⟩ : ByteArray), (⟨bt114.1, bt114.2⟩ : S39)⟩ : S45)] : List (S45)) : List (S45))).bind fun y116 => ((some (([] : List (S45)) : List (S45))).bind fun y119 => (if y119.length + y116.length < 4398046511104 then ((some (y119 ++ y116 : List (S45))).bind fun y122 => (if y122.length < 4398046511104 then ((some (y122 ++ [(⟨(⟨#[98]⟩ : ByteArray), (⟨0, 0⟩ : S39)⟩ : S45)] : List (S45))).bind fun y125 => ((slots_Place.f (⟨#[107]⟩ : ByteArray) 0 ([] : List (S41)) y116).bind fun bt128 => ((slots_Place.f (⟨#[107]⟩ : ByteArray) 0 ([] : List (S41)) y125).bind fun bt132 => ((slots_Place.f (⟨#[107]⟩ : ByteArray) 2 (([(⟨(⟨#[97]⟩ : ByteArray), (⟨0, 0⟩ : S39), (⟨#[115]⟩ : ByteArray), 3⟩ : S41)] : List (S41))) y125).bind fun bt139 => ((slots_Place.f (⟨#[107]⟩ : ByteArray) 11 ([] : List (S41)) y116).bind fun bt143 => ((slots_Free.f (([(⟨(⟨#[]⟩ : ByteArray), (⟨0, 0⟩ : S39), (⟨#[]⟩ : ByteArray), 3⟩ : S41), (⟨(⟨#[]⟩ : ByteArray), (⟨0, 0⟩ : S39), (⟨#[]⟩ : ByteArray), 0⟩ : S41)] : List (S41))) 2 3).bind fun bt150 => (if bt128.2 = 0 then (if (bt128.1.length : Int) = 1 then (if 0 < (bt128.1.length : Int) then ((u128_Of.f 5).bind fun bt153 => ((tag_Salt.f (⟨#[107]⟩ : ByteArray) (⟨#[97]⟩ : ByteArray)).bind fun t155 => (if ((((rd_T41 bt128.1 0).f0).toList) == ([97] : List UInt8) && ((((rd_T41 bt128.1 0).f1.f0) == bt153.1 && (((rd_T41 bt128.1 0).f1.f1) == bt153.2)) && ((((rd_T41 bt128.1 0).f2).toList) == t155.toList && (((rd_T41 bt128.1 0).f3) == 0)))) = true then (if bt132.2 = 111 then (if bt139.2 = 0 then (if (bt139.1.length : Int) = 2 then (if 0 < (bt139.1.length : Int) then ((u128_Of.f 5).bind fun bt157 => (if ((((rd_T41 bt139.1 0).f0).toList) == ([97] : List UInt8) && ((((rd_T41 bt139.1 0).f1.f0) == bt157.1 && (((rd_T41 bt139.1 0).f1.f1) == bt157.2)) && ((((rd_T41 bt139.1 0).f2).toList) == ([115] : List UInt8) && (((rd_T41 bt139.1 0).f3) == 3)))) = true then (if 1 < (bt139.1.length : Int) then (if ((rd_T41 bt139.1 1).f0).toList = ([98] : List UInt8) then (if ((rd_T41 bt139.1 1).f3) < 3 then (if bt143.2 = 120 then (if bt150.1 = 1 then (some bt150.2) else (some false)) else (some false)) else (some false)) else (some false)) else (none)) else (some false))) else (none)) else (some false)) else (some false)) else (some false)) else (some false)))) else (none)) else (some false)) else (some false)))))))) else (none))) else (none))))) = some r := h
 clear h
 replace H := Option.bind_eq_some_iff.mp H
 obtain ⟨⟨t114, t115⟩, A10, H⟩ := H
 replace H : ((some (([(⟨(⟨#[97]⟩ : ByteArray), (⟨t114, t115⟩ : S39)⟩ : S45)] : List (S45)) : List (S45))).bind fun y116 => ((some (([] : List (S45)) : List (S45))).bind fun y119 => (if y119.length + y116.length < 4398046511104 then ((some (y119 ++ y116 : List (S45))).bind fun y122 => (if y122.length < 4398046511104 then ((some (y122 ++ [(⟨(⟨#[98]⟩ : ByteArray), (⟨0, 0⟩ : S39)⟩ : S45)] : List (S45))).bind fun y125 => ((slots_Place.f (⟨#[107]⟩ : ByteArray) 0 ([] : List (S41)) y116).bind fun bt128 => ((slots_Place.f (⟨#[107]⟩ : ByteArray) 0 ([] : List (S41)) y125).bind fun bt132 => ((slots_Place.f (⟨#[107]⟩ : ByteArray) 2 (([(⟨(⟨#[97]⟩ : ByteArray), (⟨0, 0⟩ : S39), (⟨#[115]⟩ : ByteArray), 3⟩ : S41)] : List (S41))) y125).bind fun bt139 => ((slots_Place.f (⟨#[107]⟩ : ByteArray) 11 ([] : List (S41)) y116).bind fun bt143 => ((slots_Free.f (([(⟨(⟨#[]⟩ : ByteArray), (⟨0, 0⟩ : S39), (⟨#[]⟩ : ByteArray), 3⟩ : S41), (⟨(⟨#[]⟩ : ByteArray), (⟨0, 0⟩ : S39), (⟨#[]⟩ : ByteArray), 0⟩ : S41)] : List (S41))) 2 3).bind fun bt150 => (if bt128.2 = 0 then (if (bt128.1.length : Int) = 1 then (if 0 < (bt128.1.length : Int) then ((u128_Of.f 5).bind fun bt153 => ((tag_Salt.f (⟨#[107]⟩ : ByteArray) (⟨#[97]⟩ : ByteArray)).bind fun t155 => (if ((((rd_T41 bt128.1 0).f0).toList) == ([97] : List UInt8) && ((((rd_T41 bt128.1 0).f1.f0) == bt153.1 && (((rd_T41 bt128.1 0).f1.f1) == bt153.2)) && ((((rd_T41 bt128.1 0).f2).toList) == t155.toList && (((rd_T41 bt128.1 0).f3) == 0)))) = true then (if bt132.2 = 111 then (if bt139.2 = 0 then (if (bt139.1.length : Int) = 2 then (if 0 < (bt139.1.length : Int) then ((u128_Of.f 5).bind fun bt157 => (if ((((rd_T41 bt139.1 0).f0).toList) == ([97] : List UInt8) && ((((rd_T41 bt139.1 0).f1.f0) == bt157.1 && (((rd_T41 bt139.1 0).f1.f1) == bt157.2)) && ((((rd_T41 bt139.1 0).f2).toList) == ([115] : List UInt8) && (((rd_T41 bt139.1 0).f3) == 3)))) = true then (if 1 < (bt139.1.length : Int) then (if ((rd_T41 bt139.1 1).f0).toList = ([98] : List UInt8) then (if ((rd_T41 bt139.1 1).f3) < 3 then (if bt143.2 = 120 then (if bt150.1 = 1 then (some bt150.2) else (some false)) else (some false)) else (some false)) else (some false)) else (none)) else (some false))) else (none)) else (some false)) else (some false)) else (some false)) else (some false)))) else (none)) else (some false)) else (some false)))))))) else (none))) else (none)))) = some r := H
 have A1 := Aside0.mk A10
 clear A10
 obtain ⟨y116, hy116⟩ : ∃ y_ : List (S45), y_ = (([(⟨(⟨#[97]⟩ : ByteArray), (⟨t114, t115⟩ : S39)⟩ : S45)] : List (S45))) := ⟨_, rfl⟩
 replace H : ((some (([] : List (S45)) : List (S45))).bind fun y119 => (if y119.length + y116.length < 4398046511104 then ((some (y119 ++ y116 : List (S45))).bind fun y122 => (if y122.length < 4398046511104 then ((some (y122 ++ [(⟨(⟨#[98]⟩ : ByteArray), (⟨0, 0⟩ : S39)⟩ : S45)] : List (S45))).bind fun y125 => ((slots_Place.f (⟨#[107]⟩ : ByteArray) 0 ([] : List (S41)) y116).bind fun bt128 => ((slots_Place.f (⟨#[107]⟩ : ByteArray) 0 ([] : List (S41)) y125).bind fun bt132 => ((slots_Place.f (⟨#[107]⟩ : ByteArray) 2 (([(⟨(⟨#[97]⟩ : ByteArray), (⟨0, 0⟩ : S39), (⟨#[115]⟩ : ByteArray), 3⟩ : S41)] : List (S41))) y125).bind fun bt139 => ((slots_Place.f (⟨#[107]⟩ : ByteArray) 11 ([] : List (S41)) y116).bind fun bt143 => ((slots_Free.f (([(⟨(⟨#[]⟩ : ByteArray), (⟨0, 0⟩ : S39), (⟨#[]⟩ : ByteArray), 3⟩ : S41), (⟨(⟨#[]⟩ : ByteArray), (⟨0, 0⟩ : S39), (⟨#[]⟩ : ByteArray), 0⟩ : S41)] : List (S41))) 2 3).bind fun bt150 => (if bt128.2 = 0 then (if (bt128.1.length : Int) = 1 then (if 0 < (bt128.1.length : Int) then ((u128_Of.f 5).bind fun bt153 => ((tag_Salt.f (⟨#[107]⟩ : ByteArray) (⟨#[97]⟩ : ByteArray)).bind fun t155 => (if ((((rd_T41 bt128.1 0).f0).toList) == ([97] : List UInt8) && ((((rd_T41 bt128.1 0).f1.f0) == bt153.1 && (((rd_T41 bt128.1 0).f1.f1) == bt153.2)) && ((((rd_T41 bt128.1 0).f2).toList) == t155.toList && (((rd_T41 bt128.1 0).f3) == 0)))) = true then (if bt132.2 = 111 then (if bt139.2 = 0 then (if (bt139.1.length : Int) = 2 then (if 0 < (bt139.1.length : Int) then ((u128_Of.f 5).bind fun bt157 => (if ((((rd_T41 bt139.1 0).f0).toList) == ([97] : List UInt8) && ((((rd_T41 bt139.1 0).f1.f0) == bt157.1 && (((rd_T41 bt139.1 0).f1.f1) == bt157.2)) && ((((rd_T41 bt139.1 0).f2).toList) == ([115] : List UInt8) && (((rd_T41 bt139.1 0).f3) == 3)))) = true then (if 1 < (bt139.1.length : Int) then (if ((rd_T41 bt139.1 1).f0).toList = ([98] : List UInt8) then (if ((rd_T41 bt139.1 1).f3) < 3 then (if bt143.2 = 120 then (if bt150.1 = 1 then (some bt150.2) else (some false)) else (some false)) else (some false)) else (some false)) else (none)) else (some false))) else (none)) else (some false)) else (some false)) else (some false)) else (some false)))) else (none)) else (some false)) else (some false)))))))) else (none))) else (none))) = some r := by first | (rw [hy116]; with_reducible exact H) | (have H2_ := (Option.bind_some _ _).symm.trans H; rw [hy116]; with_reducible exact H2_) | (have H2_ := (Option.bind_some _ _).symm.trans H; with_reducible exact H2_) | with_reducible exact H | (rw [hy116]; exact H) | exact H
 have Ny116 := Aside0.mk hy116
 clear hy116
 obtain ⟨y119, hy119⟩ : ∃ y_ : List (S45), y_ = (([] : List (S45))) := ⟨_, rfl⟩
 replace H : (if y119.length + y116.length < 4398046511104 then ((some (y119 ++ y116 : List (S45))).bind fun y122 => (if y122.length < 4398046511104 then ((some (y122 ++ [(⟨(⟨#[98]⟩ : ByteArray), (⟨0, 0⟩ : S39)⟩ : S45)] : List (S45))).bind fun y125 => ((slots_Place.f (⟨#[107]⟩ : ByteArray) 0 ([] : List (S41)) y116).bind fun bt128 => ((slots_Place.f (⟨#[107]⟩ : ByteArray) 0 ([] : List (S41)) y125).bind fun bt132 => ((slots_Place.f (⟨#[107]⟩ : ByteArray) 2 (([(⟨(⟨#[97]⟩ : ByteArray), (⟨0, 0⟩ : S39), (⟨#[115]⟩ : ByteArray), 3⟩ : S41)] : List (S41))) y125).bind fun bt139 => ((slots_Place.f (⟨#[107]⟩ : ByteArray) 11 ([] : List (S41)) y116).bind fun bt143 => ((slots_Free.f (([(⟨(⟨#[]⟩ : ByteArray), (⟨0, 0⟩ : S39), (⟨#[]⟩ : ByteArray), 3⟩ : S41), (⟨(⟨#[]⟩ : ByteArray), (⟨0, 0⟩ : S39), (⟨#[]⟩ : ByteArray), 0⟩ : S41)] : List (S41))) 2 3).bind fun bt150 => (if bt128.2 = 0 then (if (bt128.1.length : Int) = 1 then (if 0 < (bt128.1.length : Int) then ((u128_Of.f 5).bind fun bt153 => ((tag_Salt.f (⟨#[107]⟩ : ByteArray) (⟨#[97]⟩ : ByteArray)).bind fun t155 => (if ((((rd_T41 bt128.1 0).f0).toList) == ([97] : List UInt8) && ((((rd_T41 bt128.1 0).f1.f0) == bt153.1 && (((rd_T41 bt128.1 0).f1.f1) == bt153.2)) && ((((rd_T41 bt128.1 0).f2).toList) == t155.toList && (((rd_T41 bt128.1 0).f3) == 0)))) = true then (if bt132.2 = 111 then (if bt139.2 = 0 then (if (bt139.1.length : Int) = 2 then (if 0 < (bt139.1.length : Int) then ((u128_Of.f 5).bind fun bt157 => (if ((((rd_T41 bt139.1 0).f0).toList) == ([97] : List UInt8) && ((((rd_T41 bt139.1 0).f1.f0) == bt157.1 && (((rd_T41 bt139.1 0).f1.f1) == bt157.2)) && ((((rd_T41 bt139.1 0).f2).toList) == ([115] : List UInt8) && (((rd_T41 bt139.1 0).f3) == 3)))) = true then (if 1 < (bt139.1.length : Int) then (if ((rd_T41 bt139.1 1).f0).toList = ([98] : List UInt8) then (if ((rd_T41 bt139.1 1).f3) < 3 then (if bt143.2 = 120 then (if bt150.1 = 1 then (some bt150.2) else (some false)) else (some false)) else (some false)) else (some false)) else (none)) else (some false))) else (none)) else (some false)) else (some false)) else (some false)) else (some false)))) else (none)) else (some false)) else (some false)))))))) else (none))) else (none)) = some r := by first | (rw [hy119]; with_reducible exact H) | (have H2_ := (Option.bind_some _ _).symm.trans H; rw [hy119]; with_reducible exact H2_) | (have H2_ := (Option.bind_some _ _).symm.trans H; with_reducible exact H2_) | with_reducible exact H | (rw [hy119]; exact H) | exact H
 have Ny119 := Aside0.mk hy119
 clear hy119
 by_cases c2 : y119.length + y116.length < 4398046511104
 ·rw [if_pos c2] at H
  have LMc2 := Aside0.mk c2
  clear c2
  obtain ⟨y122, hy122⟩ : ∃ y_ : List (S45), y_ = (y119 ++ y116) := ⟨_, rfl⟩
  replace H : (if y122.length < 4398046511104 then ((some (y122 ++ [(⟨(⟨#[98]⟩ : ByteArray), (⟨0, 0⟩ : S39)⟩ : S45)] : List (S45))).bind fun y125 => ((slots_Place.f (⟨#[107]⟩ : ByteArray) 0 ([] : List (S41)) y116).bind fun bt128 => ((slots_Place.f (⟨#[107]⟩ : ByteArray) 0 ([] : List (S41)) y125).bind fun bt132 => ((slots_Place.f (⟨#[107]⟩ : ByteArray) 2 (([(⟨(⟨#[97]⟩ : ByteArray), (⟨0, 0⟩ : S39), (⟨#[115]⟩ : ByteArray), 3⟩ : S41)] : List (S41))) y125).bind fun bt139 => ((slots_Place.f (⟨#[107]⟩ : ByteArray) 11 ([] : List (S41)) y116).bind fun bt143 => ((slots_Free.f (([(⟨(⟨#[]⟩ : ByteArray), (⟨0, 0⟩ : S39), (⟨#[]⟩ : ByteArray), 3⟩ : S41), (⟨(⟨#[]⟩ : ByteArray), (⟨0, 0⟩ : S39), (⟨#[]⟩ : ByteArray), 0⟩ : S41)] : List (S41))) 2 3).bind fun bt150 => (if bt128.2 = 0 then (if (bt128.1.length : Int) = 1 then (if 0 < (bt128.1.length : Int) then ((u128_Of.f 5).bind fun bt153 => ((tag_Salt.f (⟨#[107]⟩ : ByteArray) (⟨#[97]⟩ : ByteArray)).bind fun t155 => (if ((((rd_T41 bt128.1 0).f0).toList) == ([97] : List UInt8) && ((((rd_T41 bt128.1 0).f1.f0) == bt153.1 && (((rd_T41 bt128.1 0).f1.f1) == bt153.2)) && ((((rd_T41 bt128.1 0).f2).toList) == t155.toList && (((rd_T41 bt128.1 0).f3) == 0)))) = true then (if bt132.2 = 111 then (if bt139.2 = 0 then (if (bt139.1.length : Int) = 2 then (if 0 < (bt139.1.length : Int) then ((u128_Of.f 5).bind fun bt157 => (if ((((rd_T41 bt139.1 0).f0).toList) == ([97] : List UInt8) && ((((rd_T41 bt139.1 0).f1.f0) == bt157.1 && (((rd_T41 bt139.1 0).f1.f1) == bt157.2)) && ((((rd_T41 bt139.1 0).f2).toList) == ([115] : List UInt8) && (((rd_T41 bt139.1 0).f3) == 3)))) = true then (if 1 < (bt139.1.length : Int) then (if ((rd_T41 bt139.1 1).f0).toList = ([98] : List UInt8) then (if ((rd_T41 bt139.1 1).f3) < 3 then (if bt143.2 = 120 then (if bt150.1 = 1 then (some bt150.2) else (some false)) else (some false)) else (some false)) else (some false)) else (none)) else (some false))) else (none)) else (some false)) else (some false)) else (some false)) else (some false)))) else (none)) else (some false)) else (some false)))))))) else (none)) = some r := by first | (rw [hy122]; with_reducible exact H) | (have H2_ := (Option.bind_some _ _).symm.trans H; rw [hy122]; with_reducible exact H2_) | (have H2_ := (Option.bind_some _ _).symm.trans H; with_reducible exact H2_) | with_reducible exact H | (rw [hy122]; exact H) | exact H
  have Ny122 := Aside0.mk hy122
  clear hy122
  by_cases c3 : y122.length < 4398046511104
  ·rw [if_pos c3] at H
   have LMc3 := Aside0.mk c3
   clear c3
   obtain ⟨y125, hy125⟩ : ∃ y_ : List (S45), y_ = (y122 ++ [(⟨(⟨#[98]⟩ : ByteArray), (⟨0, 0⟩ : S39)⟩ : S45)]) := ⟨_, rfl⟩
   replace H : ((slots_Place.f (⟨#[107]⟩ : ByteArray) 0 ([] : List (S41)) y116).bind fun bt128 => ((slots_Place.f (⟨#[107]⟩ : ByteArray) 0 ([] : List (S41)) y125).bind fun bt132 => ((slots_Place.f (⟨#[107]⟩ : ByteArray) 2 (([(⟨(⟨#[97]⟩ : ByteArray), (⟨0, 0⟩ : S39), (⟨#[115]⟩ : ByteArray), 3⟩ : S41)] : List (S41))) y125).bind fun bt139 => ((slots_Place.f (⟨#[107]⟩ : ByteArray) 11 ([] : List (S41)) y116).bind fun bt143 => ((slots_Free.f (([(⟨(⟨#[]⟩ : ByteArray), (⟨0, 0⟩ : S39), (⟨#[]⟩ : ByteArray), 3⟩ : S41), (⟨(⟨#[]⟩ : ByteArray), (⟨0, 0⟩ : S39), (⟨#[]⟩ : ByteArray), 0⟩ : S41)] : List (S41))) 2 3).bind fun bt150 => (if bt128.2 = 0 then (if (bt128.1.length : Int) = 1 then (if 0 < (bt128.1.length : Int) then ((u128_Of.f 5).bind fun bt153 => ((tag_Salt.f (⟨#[107]⟩ : ByteArray) (⟨#[97]⟩ : ByteArray)).bind fun t155 => (if ((((rd_T41 bt128.1 0).f0).toList) == ([97] : List UInt8) && ((((rd_T41 bt128.1 0).f1.f0) == bt153.1 && (((rd_T41 bt128.1 0).f1.f1) == bt153.2)) && ((((rd_T41 bt128.1 0).f2).toList) == t155.toList && (((rd_T41 bt128.1 0).f3) == 0)))) = true then (if bt132.2 = 111 then (if bt139.2 = 0 then (if (bt139.1.length : Int) = 2 then (if 0 < (bt139.1.length : Int) then ((u128_Of.f 5).bind fun bt157 => (if ((((rd_T41 bt139.1 0).f0).toList) == ([97] : List UInt8) && ((((rd_T41 bt139.1 0).f1.f0) == bt157.1 && (((rd_T41 bt139.1 0).f1.f1) == bt157.2)) && ((((rd_T41 bt139.1 0).f2).toList) == ([115] : List UInt8) && (((rd_T41 bt139.1 0).f3) == 3)))) = true then (if 1 < (bt139.1.length : Int) then (if ((rd_T41 bt139.1 1).f0).toList = ([98] : List UInt8) then (if ((rd_T41 bt139.1 1).f3) < 3 then (if bt143.2 = 120 then (if bt150.1 = 1 then (some bt150.2) else (some false)) else (some false)) else (some false)) else (some false)) else (none)) else (some false))) else (none)) else (some false)) else (some false)) else (some false)) else (some false)))) else (none)) else (some false)) else (some false))))))) = some r := by first | (rw [hy125]; with_reducible exact H) | (have H2_ := (Option.bind_some _ _).symm.trans H; rw [hy125]; with_reducible exact H2_) | (have H2_ := (Option.bind_some _ _).symm.trans H; with_reducible exact H2_) | with_reducible exact H | (rw [hy125]; exact H) | exact H
   have Ny125 := Aside0.mk hy125
   clear hy125
   replace H := Option.bind_eq_some_iff.mp H
   obtain ⟨⟨t128, t129⟩, A40, H⟩ := H
   replace H : ((slots_Place.f (⟨#[107]⟩ : ByteArray) 0 ([] : List (S41)) y125).bind fun bt132 => ((slots_Place.f (⟨#[107]⟩ : ByteArray) 2 (([(⟨(⟨#[97]⟩ : ByteArray), (⟨0, 0⟩ : S39), (⟨#[115]⟩ : ByteArray), 3⟩ : S41)] : List (S41))) y125).bind fun bt139 => ((slots_Place.f (⟨#[107]⟩ : ByteArray) 11 ([] : List (S41)) y116).bind fun bt143 => ((slots_Free.f (([(⟨(⟨#[]⟩ : ByteArray), (⟨0, 0⟩ : S39), (⟨#[]⟩ : ByteArray), 3⟩ : S41), (⟨(⟨#[]⟩ : ByteArray), (⟨0, 0⟩ : S39), (⟨#[]⟩ : ByteArray), 0⟩ : S41)] : List (S41))) 2 3).bind fun bt150 => (if t129 = 0 then (if (t128.length : Int) = 1 then (if 0 < (t128.length : Int) then ((u128_Of.f 5).bind fun bt153 => ((tag_Salt.f (⟨#[107]⟩ : ByteArray) (⟨#[97]⟩ : ByteArray)).bind fun t155 => (if ((((rd_T41 t128 0).f0).toList) == ([97] : List UInt8) && ((((rd_T41 t128 0).f1.f0) == bt153.1 && (((rd_T41 t128 0).f1.f1) == bt153.2)) && ((((rd_T41 t128 0).f2).toList) == t155.toList && (((rd_T41 t128 0).f3) == 0)))) = true then (if bt132.2 = 111 then (if bt139.2 = 0 then (if (bt139.1.length : Int) = 2 then (if 0 < (bt139.1.length : Int) then ((u128_Of.f 5).bind fun bt157 => (if ((((rd_T41 bt139.1 0).f0).toList) == ([97] : List UInt8) && ((((rd_T41 bt139.1 0).f1.f0) == bt157.1 && (((rd_T41 bt139.1 0).f1.f1) == bt157.2)) && ((((rd_T41 bt139.1 0).f2).toList) == ([115] : List UInt8) && (((rd_T41 bt139.1 0).f3) == 3)))) = true then (if 1 < (bt139.1.length : Int) then (if ((rd_T41 bt139.1 1).f0).toList = ([98] : List UInt8) then (if ((rd_T41 bt139.1 1).f3) < 3 then (if bt143.2 = 120 then (if bt150.1 = 1 then (some bt150.2) else (some false)) else (some false)) else (some false)) else (some false)) else (none)) else (some false))) else (none)) else (some false)) else (some false)) else (some false)) else (some false)))) else (none)) else (some false)) else (some false)))))) = some r := H
   have A4 := Aside0.mk A40
   clear A40
   replace H := Option.bind_eq_some_iff.mp H
   obtain ⟨⟨t132, t133⟩, A50, H⟩ := H
   replace H : ((slots_Place.f (⟨#[107]⟩ : ByteArray) 2 (([(⟨(⟨#[97]⟩ : ByteArray), (⟨0, 0⟩ : S39), (⟨#[115]⟩ : ByteArray), 3⟩ : S41)] : List (S41))) y125).bind fun bt139 => ((slots_Place.f (⟨#[107]⟩ : ByteArray) 11 ([] : List (S41)) y116).bind fun bt143 => ((slots_Free.f (([(⟨(⟨#[]⟩ : ByteArray), (⟨0, 0⟩ : S39), (⟨#[]⟩ : ByteArray), 3⟩ : S41), (⟨(⟨#[]⟩ : ByteArray), (⟨0, 0⟩ : S39), (⟨#[]⟩ : ByteArray), 0⟩ : S41)] : List (S41))) 2 3).bind fun bt150 => (if t129 = 0 then (if (t128.length : Int) = 1 then (if 0 < (t128.length : Int) then ((u128_Of.f 5).bind fun bt153 => ((tag_Salt.f (⟨#[107]⟩ : ByteArray) (⟨#[97]⟩ : ByteArray)).bind fun t155 => (if ((((rd_T41 t128 0).f0).toList) == ([97] : List UInt8) && ((((rd_T41 t128 0).f1.f0) == bt153.1 && (((rd_T41 t128 0).f1.f1) == bt153.2)) && ((((rd_T41 t128 0).f2).toList) == t155.toList && (((rd_T41 t128 0).f3) == 0)))) = true then (if t133 = 111 then (if bt139.2 = 0 then (if (bt139.1.length : Int) = 2 then (if 0 < (bt139.1.length : Int) then ((u128_Of.f 5).bind fun bt157 => (if ((((rd_T41 bt139.1 0).f0).toList) == ([97] : List UInt8) && ((((rd_T41 bt139.1 0).f1.f0) == bt157.1 && (((rd_T41 bt139.1 0).f1.f1) == bt157.2)) && ((((rd_T41 bt139.1 0).f2).toList) == ([115] : List UInt8) && (((rd_T41 bt139.1 0).f3) == 3)))) = true then (if 1 < (bt139.1.length : Int) then (if ((rd_T41 bt139.1 1).f0).toList = ([98] : List UInt8) then (if ((rd_T41 bt139.1 1).f3) < 3 then (if bt143.2 = 120 then (if bt150.1 = 1 then (some bt150.2) else (some false)) else (some false)) else (some false)) else (some false)) else (none)) else (some false))) else (none)) else (some false)) else (some false)) else (some false)) else (some false)))) else (none)) else (some false)) else (some false))))) = some r := H
   have A5 := Aside0.mk A50
   clear A50
   obtain ⟨y136, hy136⟩ : ∃ y_ : List (S41), y_ = (([(⟨(⟨#[97]⟩ : ByteArray), (⟨0, 0⟩ : S39), (⟨#[115]⟩ : ByteArray), 3⟩ : S41)] : List (S41))) := ⟨_, rfl⟩
   replace H : ((slots_Place.f (⟨#[107]⟩ : ByteArray) 2 y136 y125).bind fun bt139 => ((slots_Place.f (⟨#[107]⟩ : ByteArray) 11 ([] : List (S41)) y116).bind fun bt143 => ((slots_Free.f (([(⟨(⟨#[]⟩ : ByteArray), (⟨0, 0⟩ : S39), (⟨#[]⟩ : ByteArray), 3⟩ : S41), (⟨(⟨#[]⟩ : ByteArray), (⟨0, 0⟩ : S39), (⟨#[]⟩ : ByteArray), 0⟩ : S41)] : List (S41))) 2 3).bind fun bt150 => (if t129 = 0 then (if (t128.length : Int) = 1 then (if 0 < (t128.length : Int) then ((u128_Of.f 5).bind fun bt153 => ((tag_Salt.f (⟨#[107]⟩ : ByteArray) (⟨#[97]⟩ : ByteArray)).bind fun t155 => (if ((((rd_T41 t128 0).f0).toList) == ([97] : List UInt8) && ((((rd_T41 t128 0).f1.f0) == bt153.1 && (((rd_T41 t128 0).f1.f1) == bt153.2)) && ((((rd_T41 t128 0).f2).toList) == t155.toList && (((rd_T41 t128 0).f3) == 0)))) = true then (if t133 = 111 then (if bt139.2 = 0 then (if (bt139.1.length : Int) = 2 then (if 0 < (bt139.1.length : Int) then ((u128_Of.f 5).bind fun bt157 => (if ((((rd_T41 bt139.1 0).f0).toList) == ([97] : List UInt8) && ((((rd_T41 bt139.1 0).f1.f0) == bt157.1 && (((rd_T41 bt139.1 0).f1.f1) == bt157.2)) && ((((rd_T41 bt139.1 0).f2).toList) == ([115] : List UInt8) && (((rd_T41 bt139.1 0).f3) == 3)))) = true then (if 1 < (bt139.1.length : Int) then (if ((rd_T41 bt139.1 1).f0).toList = ([98] : List UInt8) then (if ((rd_T41 bt139.1 1).f3) < 3 then (if bt143.2 = 120 then (if bt150.1 = 1 then (some bt150.2) else (some false)) else (some false)) else (some false)) else (some false)) else (none)) else (some false))) else (none)) else (some false)) else (some false)) else (some false)) else (some false)))) else (none)) else (some false)) else (some false))))) = some r := by first | (rw [hy136]; with_reducible exact H) | (have H2_ := (Option.bind_some _ _).symm.trans H; rw [hy136]; with_reducible exact H2_) | (have H2_ := (Option.bind_some _ _).symm.trans H; with_reducible exact H2_) | with_reducible exact H | (rw [hy136]; exact H) | exact H
   have Ny136 := Aside0.mk hy136
   clear hy136
   replace H := Option.bind_eq_some_iff.mp H
   obtain ⟨⟨t139, t140⟩, A60, H⟩ := H
   replace H : ((slots_Place.f (⟨#[107]⟩ : ByteArray) 11 ([] : List (S41)) y116).bind fun bt143 => ((slots_Free.f (([(⟨(⟨#[]⟩ : ByteArray), (⟨0, 0⟩ : S39), (⟨#[]⟩ : ByteArray), 3⟩ : S41), (⟨(⟨#[]⟩ : ByteArray), (⟨0, 0⟩ : S39), (⟨#[]⟩ : ByteArray), 0⟩ : S41)] : List (S41))) 2 3).bind fun bt150 => (if t129 = 0 then (if (t128.length : Int) = 1 then (if 0 < (t128.length : Int) then ((u128_Of.f 5).bind fun bt153 => ((tag_Salt.f (⟨#[107]⟩ : ByteArray) (⟨#[97]⟩ : ByteArray)).bind fun t155 => (if ((((rd_T41 t128 0).f0).toList) == ([97] : List UInt8) && ((((rd_T41 t128 0).f1.f0) == bt153.1 && (((rd_T41 t128 0).f1.f1) == bt153.2)) && ((((rd_T41 t128 0).f2).toList) == t155.toList && (((rd_T41 t128 0).f3) == 0)))) = true then (if t133 = 111 then (if t140 = 0 then (if (t139.length : Int) = 2 then (if 0 < (t139.length : Int) then ((u128_Of.f 5).bind fun bt157 => (if ((((rd_T41 t139 0).f0).toList) == ([97] : List UInt8) && ((((rd_T41 t139 0).f1.f0) == bt157.1 && (((rd_T41 t139 0).f1.f1) == bt157.2)) && ((((rd_T41 t139 0).f2).toList) == ([115] : List UInt8) && (((rd_T41 t139 0).f3) == 3)))) = true then (if 1 < (t139.length : Int) then (if ((rd_T41 t139 1).f0).toList = ([98] : List UInt8) then (if ((rd_T41 t139 1).f3) < 3 then (if bt143.2 = 120 then (if bt150.1 = 1 then (some bt150.2) else (some false)) else (some false)) else (some false)) else (some false)) else (none)) else (some false))) else (none)) else (some false)) else (some false)) else (some false)) else (some false)))) else (none)) else (some false)) else (some false)))) = some r := H
   have A6 := Aside0.mk A60
   clear A60
   replace H := Option.bind_eq_some_iff.mp H
   obtain ⟨⟨t143, t144⟩, A70, H⟩ := H
   replace H : ((slots_Free.f (([(⟨(⟨#[]⟩ : ByteArray), (⟨0, 0⟩ : S39), (⟨#[]⟩ : ByteArray), 3⟩ : S41), (⟨(⟨#[]⟩ : ByteArray), (⟨0, 0⟩ : S39), (⟨#[]⟩ : ByteArray), 0⟩ : S41)] : List (S41))) 2 3).bind fun bt150 => (if t129 = 0 then (if (t128.length : Int) = 1 then (if 0 < (t128.length : Int) then ((u128_Of.f 5).bind fun bt153 => ((tag_Salt.f (⟨#[107]⟩ : ByteArray) (⟨#[97]⟩ : ByteArray)).bind fun t155 => (if ((((rd_T41 t128 0).f0).toList) == ([97] : List UInt8) && ((((rd_T41 t128 0).f1.f0) == bt153.1 && (((rd_T41 t128 0).f1.f1) == bt153.2)) && ((((rd_T41 t128 0).f2).toList) == t155.toList && (((rd_T41 t128 0).f3) == 0)))) = true then (if t133 = 111 then (if t140 = 0 then (if (t139.length : Int) = 2 then (if 0 < (t139.length : Int) then ((u128_Of.f 5).bind fun bt157 => (if ((((rd_T41 t139 0).f0).toList) == ([97] : List UInt8) && ((((rd_T41 t139 0).f1.f0) == bt157.1 && (((rd_T41 t139 0).f1.f1) == bt157.2)) && ((((rd_T41 t139 0).f2).toList) == ([115] : List UInt8) && (((rd_T41 t139 0).f3) == 3)))) = true then (if 1 < (t139.length : Int) then (if ((rd_T41 t139 1).f0).toList = ([98] : List UInt8) then (if ((rd_T41 t139 1).f3) < 3 then (if t144 = 120 then (if bt150.1 = 1 then (some bt150.2) else (some false)) else (some false)) else (some false)) else (some false)) else (none)) else (some false))) else (none)) else (some false)) else (some false)) else (some false)) else (some false)))) else (none)) else (some false)) else (some false))) = some r := H
   have A7 := Aside0.mk A70
   clear A70
   obtain ⟨y147, hy147⟩ : ∃ y_ : List (S41), y_ = (([(⟨(⟨#[]⟩ : ByteArray), (⟨0, 0⟩ : S39), (⟨#[]⟩ : ByteArray), 3⟩ : S41), (⟨(⟨#[]⟩ : ByteArray), (⟨0, 0⟩ : S39), (⟨#[]⟩ : ByteArray), 0⟩ : S41)] : List (S41))) := ⟨_, rfl⟩
   replace H : ((slots_Free.f y147 2 3).bind fun bt150 => (if t129 = 0 then (if (t128.length : Int) = 1 then (if 0 < (t128.length : Int) then ((u128_Of.f 5).bind fun bt153 => ((tag_Salt.f (⟨#[107]⟩ : ByteArray) (⟨#[97]⟩ : ByteArray)).bind fun t155 => (if ((((rd_T41 t128 0).f0).toList) == ([97] : List UInt8) && ((((rd_T41 t128 0).f1.f0) == bt153.1 && (((rd_T41 t128 0).f1.f1) == bt153.2)) && ((((rd_T41 t128 0).f2).toList) == t155.toList && (((rd_T41 t128 0).f3) == 0)))) = true then (if t133 = 111 then (if t140 = 0 then (if (t139.length : Int) = 2 then (if 0 < (t139.length : Int) then ((u128_Of.f 5).bind fun bt157 => (if ((((rd_T41 t139 0).f0).toList) == ([97] : List UInt8) && ((((rd_T41 t139 0).f1.f0) == bt157.1 && (((rd_T41 t139 0).f1.f1) == bt157.2)) && ((((rd_T41 t139 0).f2).toList) == ([115] : List UInt8) && (((rd_T41 t139 0).f3) == 3)))) = true then (if 1 < (t139.length : Int) then (if ((rd_T41 t139 1).f0).toList = ([98] : List UInt8) then (if ((rd_T41 t139 1).f3) < 3 then (if t144 = 120 then (if bt150.1 = 1 then (some bt150.2) else (some false)) else (some false)) else (some false)) else (some false)) else (none)) else (some false))) else (none)) else (some false)) else (some false)) else (some false)) else (some false)))) else (none)) else (some false)) else (some false))) = some r := by first | (rw [hy147]; with_reducible exact H) | (have H2_ := (Option.bind_some _ _).symm.trans H; rw [hy147]; with_reducible exact H2_) | (have H2_ := (Option.bind_some _ _).symm.trans H; with_reducible exact H2_) | with_reducible exact H | (rw [hy147]; exact H) | exact H
   have Ny147 := Aside0.mk hy147
   clear hy147
   replace H := Option.bind_eq_some_iff.mp H
   obtain ⟨⟨t150, t151⟩, A80, H⟩ := H
   replace H : (if t129 = 0 then (if (t128.length : Int) = 1 then (if 0 < (t128.length : Int) then ((u128_Of.f 5).bind fun bt153 => ((tag_Salt.f (⟨#[107]⟩ : ByteArray) (⟨#[97]⟩ : ByteArray)).bind fun t155 => (if ((((rd_T41 t128 0).f0).toList) == ([97] : List UInt8) && ((((rd_T41 t128 0).f1.f0) == bt153.1 && (((rd_T41 t128 0).f1.f1) == bt153.2)) && ((((rd_T41 t128 0).f2).toList) == t155.toList && (((rd_T41 t128 0).f3) == 0)))) = true then (if t133 = 111 then (if t140 = 0 then (if (t139.length : Int) = 2 then (if 0 < (t139.length : Int) then ((u128_Of.f 5).bind fun bt157 => (if ((((rd_T41 t139 0).f0).toList) == ([97] : List UInt8) && ((((rd_T41 t139 0).f1.f0) == bt157.1 && (((rd_T41 t139 0).f1.f1) == bt157.2)) && ((((rd_T41 t139 0).f2).toList) == ([115] : List UInt8) && (((rd_T41 t139 0).f3) == 3)))) = true then (if 1 < (t139.length : Int) then (if ((rd_T41 t139 1).f0).toList = ([98] : List UInt8) then (if ((rd_T41 t139 1).f3) < 3 then (if t144 = 120 then (if t150 = 1 then (some t151) else (some false)) else (some false)) else (some false)) else (some false)) else (none)) else (some false))) else (none)) else (some false)) else (some false)) else (some false)) else (some false)))) else (none)) else (some false)) else (some false)) = some r := H
   have A8 := Aside0.mk A80
   clear A80
   by_cases c9 : t129 = 0
   ·rw [if_pos c9] at H
    have c9b0 : (t129 == 0) = true := beq_iff_eq.mpr c9
    have c9b1 : (t129 != 0) = false := bne_eq_false_iff_eq.mpr c9
    clear c9
    by_cases c10 : (t128.length : Int) = 1
    ·rw [if_pos c10] at H
     have c10b0 : ((t128.length : Int) == 1) = true := beq_iff_eq.mpr c10
     have c10b1 : ((t128.length : Int) != 1) = false := bne_eq_false_iff_eq.mpr c10
     clear c10
     by_cases c11 : 0 < (t128.length : Int)
     ·rw [if_pos c11] at H
      have c11b0 : decide (0 < (t128.length : Int)) = true := decide_eq_true c11
      have c11b1 : decide (0 < t128.length) = true := decide_eq_true (by omega)
      clear c11
      replace H := Option.bind_eq_some_iff.mp H
      obtain ⟨⟨t153, t154⟩, A120, H⟩ := H
      replace H : ((tag_Salt.f (⟨#[107]⟩ : ByteArray) (⟨#[97]⟩ : ByteArray)).bind fun t155 => (if ((((rd_T41 t128 0).f0).toList) == ([97] : List UInt8) && ((((rd_T41 t128 0).f1.f0) == t153 && (((rd_T41 t128 0).f1.f1) == t154)) && ((((rd_T41 t128 0).f2).toList) == t155.toList && (((rd_T41 t128 0).f3) == 0)))) = true then (if t133 = 111 then (if t140 = 0 then (if (t139.length : Int) = 2 then (if 0 < (t139.length : Int) then ((u128_Of.f 5).bind fun bt157 => (if ((((rd_T41 t139 0).f0).toList) == ([97] : List UInt8) && ((((rd_T41 t139 0).f1.f0) == bt157.1 && (((rd_T41 t139 0).f1.f1) == bt157.2)) && ((((rd_T41 t139 0).f2).toList) == ([115] : List UInt8) && (((rd_T41 t139 0).f3) == 3)))) = true then (if 1 < (t139.length : Int) then (if ((rd_T41 t139 1).f0).toList = ([98] : List UInt8) then (if ((rd_T41 t139 1).f3) < 3 then (if t144 = 120 then (if t150 = 1 then (some t151) else (some false)) else (some false)) else (some false)) else (some false)) else (none)) else (some false))) else (none)) else (some false)) else (some false)) else (some false)) else (some false))) = some r := H
      have A12 := Aside0.mk A120
      clear A120
      replace H := Option.bind_eq_some_iff.mp H
      obtain ⟨t155, A130, H⟩ := H
      replace H : (if ((((rd_T41 t128 0).f0).toList) == ([97] : List UInt8) && ((((rd_T41 t128 0).f1.f0) == t153 && (((rd_T41 t128 0).f1.f1) == t154)) && ((((rd_T41 t128 0).f2).toList) == t155.toList && (((rd_T41 t128 0).f3) == 0)))) = true then (if t133 = 111 then (if t140 = 0 then (if (t139.length : Int) = 2 then (if 0 < (t139.length : Int) then ((u128_Of.f 5).bind fun bt157 => (if ((((rd_T41 t139 0).f0).toList) == ([97] : List UInt8) && ((((rd_T41 t139 0).f1.f0) == bt157.1 && (((rd_T41 t139 0).f1.f1) == bt157.2)) && ((((rd_T41 t139 0).f2).toList) == ([115] : List UInt8) && (((rd_T41 t139 0).f3) == 3)))) = true then (if 1 < (t139.length : Int) then (if ((rd_T41 t139 1).f0).toList = ([98] : List UInt8) then (if ((rd_T41 t139 1).f3) < 3 then (if t144 = 120 then (if t150 = 1 then (some t151) else (some false)) else (some false)) else (some false)) else (some false)) else (none)) else (some false))) else (none)) else (some false)) else (some false)) else (some false)) else (some false)) = some r := H
      have A13 := Aside0.mk A130
      clear A130
      by_cases c14 : ((((rd_T41 t128 0).f0).toList) == ([97] : List UInt8) && ((((rd_T41 t128 0).f1.f0) == t153 && (((rd_T41 t128 0).f1.f1) == t154)) && ((((rd_T41 t128 0).f2).toList) == t155.toList && (((rd_T41 t128 0).f3) == 0)))) = true
      ·rw [if_pos c14] at H
       have c14b0 : ((((rd_T41 t128 0).f0).toList) == ([97] : List UInt8) && ((((rd_T41 t128 0).f1.f0) == t153 && (((rd_T41 t128 0).f1.f1) == t154)) && ((((rd_T41 t128 0).f2).toList) == t155.toList && (((rd_T41 t128 0).f3) == 0)))) = true := c14
       (try (have c14b1 : decide ((((rd_T41 t128 0).f0).toList) = ([97] : List UInt8) && ((((rd_T41 t128 0).f1.f0) == t153 && (((rd_T41 t128 0).f1.f1) == t154)) && ((((rd_T41 t128 0).f2).toList) == t155.toList && (((rd_T41 t128 0).f3) == 0)))) = true := by simpa using c14))
       (try (have c14b2 : ((((rd_T41 t128 0).f0).toList) == ([97] : List UInt8) && ((((rd_T41 t128 0).f1.f0) == t153 && (((rd_T41 t128 0).f1.f1) == t154)) && ((((rd_T41 t128 0).f2).toList) == t155.toList && (((rd_T41 t128 0).f3) == 0)))) = true := by simpa using c14))
       clear c14
       by_cases c15 : t133 = 111
       ·rw [if_pos c15] at H
        have c15b0 : (t133 == 111) = true := beq_iff_eq.mpr c15
        have c15b1 : (t133 != 111) = false := bne_eq_false_iff_eq.mpr c15
        clear c15
        by_cases c16 : t140 = 0
        ·rw [if_pos c16] at H
         have c16b0 : (t140 == 0) = true := beq_iff_eq.mpr c16
         have c16b1 : (t140 != 0) = false := bne_eq_false_iff_eq.mpr c16
         clear c16
         by_cases c17 : (t139.length : Int) = 2
         ·rw [if_pos c17] at H
          have c17b0 : ((t139.length : Int) == 2) = true := beq_iff_eq.mpr c17
          have c17b1 : ((t139.length : Int) != 2) = false := bne_eq_false_iff_eq.mpr c17
          clear c17
          by_cases c18 : 0 < (t139.length : Int)
          ·rw [if_pos c18] at H
           have c18b0 : decide (0 < (t139.length : Int)) = true := decide_eq_true c18
           have c18b1 : decide (0 < t139.length) = true := decide_eq_true (by omega)
           clear c18
           replace H := Option.bind_eq_some_iff.mp H
           obtain ⟨⟨t157, t158⟩, A190, H⟩ := H
           replace H : (if ((((rd_T41 t139 0).f0).toList) == ([97] : List UInt8) && ((((rd_T41 t139 0).f1.f0) == t157 && (((rd_T41 t139 0).f1.f1) == t158)) && ((((rd_T41 t139 0).f2).toList) == ([115] : List UInt8) && (((rd_T41 t139 0).f3) == 3)))) = true then (if 1 < (t139.length : Int) then (if ((rd_T41 t139 1).f0).toList = ([98] : List UInt8) then (if ((rd_T41 t139 1).f3) < 3 then (if t144 = 120 then (if t150 = 1 then (some t151) else (some false)) else (some false)) else (some false)) else (some false)) else (none)) else (some false)) = some r := H
           have A19 := Aside0.mk A190
           clear A190
           by_cases c20 : ((((rd_T41 t139 0).f0).toList) == ([97] : List UInt8) && ((((rd_T41 t139 0).f1.f0) == t157 && (((rd_T41 t139 0).f1.f1) == t158)) && ((((rd_T41 t139 0).f2).toList) == ([115] : List UInt8) && (((rd_T41 t139 0).f3) == 3)))) = true
           ·rw [if_pos c20] at H
            have c20b0 : ((((rd_T41 t139 0).f0).toList) == ([97] : List UInt8) && ((((rd_T41 t139 0).f1.f0) == t157 && (((rd_T41 t139 0).f1.f1) == t158)) && ((((rd_T41 t139 0).f2).toList) == ([115] : List UInt8) && (((rd_T41 t139 0).f3) == 3)))) = true := c20
            (try (have c20b1 : decide ((((rd_T41 t139 0).f0).toList) = ([97] : List UInt8) && ((((rd_T41 t139 0).f1.f0) == t157 && (((rd_T41 t139 0).f1.f1) == t158)) && ((((rd_T41 t139 0).f2).toList) == ([115] : List UInt8) && (((rd_T41 t139 0).f3) == 3)))) = true := by simpa using c20))
            (try (have c20b2 : ((((rd_T41 t139 0).f0).toList) == ([97] : List UInt8) && ((((rd_T41 t139 0).f1.f0) == t157 && (((rd_T41 t139 0).f1.f1) == t158)) && ((((rd_T41 t139 0).f2).toList) == ([115] : List UInt8) && (((rd_T41 t139 0).f3) == 3)))) = true := by simpa using c20))
            clear c20
            by_cases c21 : 1 < (t139.length : Int)
            ·rw [if_pos c21] at H
             have c21b0 : decide (1 < (t139.length : Int)) = true := decide_eq_true c21
             have c21b1 : decide (1 < t139.length) = true := decide_eq_true (by omega)
             clear c21
             by_cases c22 : ((rd_T41 t139 1).f0).toList = ([98] : List UInt8)
             ·rw [if_pos c22] at H
              have c22b0 : (((rd_T41 t139 1).f0).toList == ([98] : List UInt8)) = true := beq_iff_eq.mpr c22
              have c22b1 : (((rd_T41 t139 1).f0).toList != ([98] : List UInt8)) = false := bne_eq_false_iff_eq.mpr c22
              clear c22
              by_cases c23 : ((rd_T41 t139 1).f3) < 3
              ·rw [if_pos c23] at H
               have c23b0 : decide (((rd_T41 t139 1).f3) < 3) = true := decide_eq_true c23
               clear c23
               by_cases c24 : t144 = 120
               ·rw [if_pos c24] at H
                have c24b0 : (t144 == 120) = true := beq_iff_eq.mpr c24
                have c24b1 : (t144 != 120) = false := bne_eq_false_iff_eq.mpr c24
                clear c24
                by_cases c25 : t150 = 1
                ·rw [if_pos c25] at H
                 have c25b0 : (t150 == 1) = true := beq_iff_eq.mpr c25
                 have c25b1 : (t150 != 1) = false := bne_eq_false_iff_eq.mpr c25
                 clear c25
                 obtain rfl := Option.some.inj H
                 go_enter Tryz.func14, Tryz.ntmps14
                 try go_wp2_with (first | ((with_reducible refine gate_callee (f := 43) rfl ?_); refine goesL_ (some 13) rfl rfl Tryz.func43 (by kernel_rfl) rfl #[.int .u64 5] rfl (by (try simp only [List.map_toArray, List.map_cons, List.map_nil]); first | done | rfl | (simp only [List.length_drop, List.length_take]; rfl)) ?_; (with_reducible refine (u128_Of.calls 5 t114 t115 _ A1.out).mono ?_); rintro e w26 ⟨rfl, hb⟩; refine ⟨_, rfl, ?_⟩; have n0_ := Aside0.mk (below_step (by repeat (first | (with_reducible first | exact HB.out | apply below_alloc | apply pw_below_drewN | apply below_drew1) | exact HB.out)) hb); clear HB; have HB := n0_; clear n0_; (try clear hb); (try clear hb2); (try clear hk); (try clear hi)) | ((with_reducible refine gate_dst (N := 15) rfl ?_); (try (refine gate_guard (by rfl) ?_; dsimp only)); refine Kd.R_lit k45 _ 45 ?hg (N := 15) ?hd (xs := ([(⟨(⟨#[97]⟩ : ByteArray), (⟨t114, t115⟩ : S39)⟩ : S45)] : List (S45))) (inner := [.string (⟨#[97]⟩ : ByteArray), .int .u64 t114, .int .u64 t115]) (ok := fun _ => True) (okp := fun _ => True) ?hr ?hp (fun _ hk => hk) trivial (Below.refl _ _) (Nat.le_refl _) (by simp) ?_; (case hd => rfl); (case hg => rfl); (case hr => first | (go_simp; done) | (go_simp; rfl)); (case hp => exact (Reps.c3 (show Kd.M k45 _ _ _ (⟨(⟨#[97]⟩ : ByteArray), (⟨t114, t115⟩ : S39)⟩ : S45) [.string (⟨#[97]⟩ : ByteArray), .int .u64 t114, .int .u64 t115] from (k45_mkM _ _ _ (⟨(⟨#[97]⟩ : ByteArray), (⟨t114, t115⟩ : S39)⟩ : S45) )) (Reps.none _ _))); intro v117 w27 ho28 hb hg_ hnew_; clear hg_ hnew_; (first | rw [← Ny116.out] at ho28 | (simp only [Int.reduceToNat] at ho28; rw [← Ny116.out] at ho28)); have n0_ := Aside0.mk (Kd.R_lower ho28 (below_size (by repeat (first | (with_reducible first | exact HB.out | apply below_alloc | apply pw_below_drewN | apply below_drew1) | exact HB.out)))); have n1_ := Aside0.mk (below_step (by repeat (first | (with_reducible first | exact HB.out | apply below_alloc | apply pw_below_drewN | apply below_drew1) | exact HB.out)) hb); clear HB; have HO118 := n0_; have HB := n1_; clear n0_ n1_; clear hb ho28) | ((with_reducible refine gate_dst (N := 16) rfl ?_); (try (refine gate_guard (by rfl) ?_; dsimp only)); refine Kd.R_lit k45 _ 45 ?hg (N := 16) ?hd (xs := ([] : List (S45))) (inner := []) (ok := fun _ => True) (okp := fun _ => True) ?hr ?hp (fun _ hk => hk) trivial (Below.refl _ _) (Nat.le_refl _) (by simp) ?_; (case hd => rfl); (case hg => rfl); (case hr => first | (go_simp; done) | (go_simp; rfl)); (case hp => exact (Reps.none _ _)); intro v120 w29 ho30 hb hg_ hnew_; clear hg_ hnew_; (first | rw [← Ny119.out] at ho30 | (simp only [Int.reduceToNat] at ho30; rw [← Ny119.out] at ho30)); have n0_ := Aside0.mk (Kd.R_elder' (by (with_reducible repeat (first | apply Kd.R_alloc | apply Kd.R_drewN | apply Kd.R_drew)); exact HO118.out) (Kd.R_base ho30) hb); have n1_ := Aside0.mk (Kd.R_lower (Kd.R_new' ho30 (Kd.R_lt (by (with_reducible repeat (first | apply Kd.R_alloc | apply Kd.R_drewN | apply Kd.R_drew)); exact HO118.out))) (below_size (by repeat (first | (with_reducible first | exact HB.out | apply below_alloc | apply pw_below_drewN | apply below_drew1) | exact HB.out)))); have n2_ := Aside0.mk (below_step (by repeat (first | (with_reducible first | exact HB.out | apply below_alloc | apply pw_below_drewN | apply below_drew1) | exact HB.out)) hb); clear HO118; clear HB; have HO118 := n0_; have HO121 := n1_; have HB := n2_; clear n0_ n1_ n2_; clear hb ho30; obtain ⟨Ao32, co32, eo32⟩ := Kd.R_slice HO118.out; subst eo32) | ((with_reducible refine gate_builtin (b := .append) (xs := #[.tmp 16, .tmp 17]) rfl ?_); (try (refine gate_guard (by rfl) ?_; dsimp only)); at_builtin; refine Kd.R_append_rows k45 (w0 := w) w.heap.size rfl (.tmp 16) (.tmp 17) 23 45 (.agg #[(.string ⟨#[]⟩), (.int .u64 0), (.int .u64 0)]) 32 rfl Tryz.underlying23 info45 rfl (by decide) (by omega) v120 y119 y116 _ _ _ (fun k_ => some k_ ≠ (.slice Ao32 y116.length co32 : Value).ownBlock) (fun _ => False) rfl rfl ?aO ?aR (fun _ _ h => h) (fun _ h => h.elim) ?aF ?aB ?aS ?aL ?_; (case aR => repeat (first | exact (Kd.R_reads' HO118.out).2.2 | (with_reducible refine Kd.C_alloc ?_ _) | (with_reducible refine Kd.C_drewN ?_ _) | (with_reducible refine Kd.C_drew ?_))); (case aB => exact (by repeat (first | (with_reducible first | exact HB.out | apply below_alloc | apply pw_below_drewN | apply below_drew1) | exact HB.out))); (case aF => exact (fun k_ hk => Kd.fresh' (Kd.R_lt (by (with_reducible repeat (first | apply Kd.R_alloc | apply Kd.R_drewN | apply Kd.R_drew)); exact HO118.out)) k_ hk)); (case aO => exact (by (with_reducible repeat (first | apply Kd.R_alloc | apply Kd.R_drewN | apply Kd.R_drew)); exact Kd.R_mono HO121.out (fun _ hk => hk.2))); (case aS => exact (below_size (by repeat (first | (with_reducible first | exact HB.out | apply below_alloc | apply pw_below_drewN | apply below_drew1) | exact HB.out)))); (case aL => have := LMc2.out; omega); intro v123 w31 ho hb hg hat; rw [← Ny122.out] at ho; have n0_ := Aside0.mk (Kd.R_after (ok := (fun _ => True)) (by (with_reducible repeat (first | apply Kd.R_alloc | apply Kd.R_drewN | apply Kd.R_drew)); exact HO118.out) hg hat); have n1_ := Aside0.mk (hb); have n2_ := Aside0.mk (ho); clear HO118; clear HB; clear HO121; have HO118 := n0_; have HB := n1_; have HO124 := n2_; clear n0_ n1_ n2_; clear ho hb hg hat) | ((with_reducible refine gate_builtin (b := .append) (xs := #[.tmp 18, .tmp 20]) rfl ?_); (try (refine gate_guard (by rfl) ?_; dsimp only)); at_builtin; refine Kd.R_append k45 (w0 := w) w.heap.size rfl (.tmp 18) (.tmp 20) 23 45 (.agg #[(.string ⟨#[]⟩), (.int .u64 0), (.int .u64 0)]) 32 rfl Tryz.underlying23 info45 rfl (by decide) (by omega) v123 y122 (⟨(⟨#[98]⟩ : ByteArray), (⟨0, 0⟩ : S39)⟩ : S45) [.string (⟨#[98]⟩ : ByteArray), .int .u64 0, .int .u64 0] (fun k_ => some k_ ≠ (.slice Ao32 y116.length co32 : Value).ownBlock) (fun _ => False) rfl rfl ?aP (fun _ hk => hk.elim) ?aF ?aO ?aB ?aS ?aL ?_; (case aP => exact k45_mkM _ _ _ (⟨(⟨#[98]⟩ : ByteArray), (⟨0, 0⟩ : S39)⟩ : S45)); (case aB => exact (by repeat (first | (with_reducible first | exact HB.out | apply below_alloc | apply pw_below_drewN | apply below_drew1) | exact HB.out))); (case aF => exact (fun k_ hk => Kd.fresh' (Kd.R_lt (by (with_reducible repeat (first | apply Kd.R_alloc | apply Kd.R_drewN | apply Kd.R_drew)); exact HO118.out)) k_ hk)); (case aO => exact (by (with_reducible repeat (first | apply Kd.R_alloc | apply Kd.R_drewN | apply Kd.R_drew)); exact HO124.out)); (case aS => exact (below_size (by repeat (first | (with_reducible first | exact HB.out | apply below_alloc | apply pw_below_drewN | apply below_drew1) | exact HB.out)))); (case aL => have := LMc3.out; omega); intro v126 w33 ho hb hg hat; rw [← Ny125.out] at ho; have n0_ := Aside0.mk (Kd.R_after (ok := (fun _ => True)) (by (with_reducible repeat (first | apply Kd.R_alloc | apply Kd.R_drewN | apply Kd.R_drew)); exact HO118.out) hg hat); have n1_ := Aside0.mk (hb); have n2_ := Aside0.mk (ho); clear HO118; clear HB; clear HO124; have HO118 := n0_; have HB := n1_; have HO127 := n2_; clear n0_ n1_ n2_; clear ho hb hg hat) | ((with_reducible refine gate_callee (f := 10) rfl ?_); refine goesL_ (some 24) rfl rfl Tryz.func10 (by kernel_rfl) rfl #[.string (⟨#[107]⟩ : ByteArray), .int .i64 0, .slice none 0 0, .slice Ao32 y116.length co32] rfl (by (try simp only [List.map_toArray, List.map_cons, List.map_nil]); first | done | rfl | (simp only [List.length_drop, List.length_take]; rfl)) ?_; (refine (slots_Place.calls (⟨#[107]⟩ : ByteArray) 0 _ _ ([] : List (S41)) _ _ y116 t128 t129 _ ?side5 ?side1 ?side2 ?side3 ?side4 A4.out).mono ?_); (case side1 => exact Kd.C_nil _ _); (case side2 => exact Nat.le_refl _); (case side3 => repeat (first | exact (Kd.R_reads' HO118.out).2.2 | (with_reducible refine Kd.C_alloc ?_ _) | (with_reducible refine Kd.C_drewN ?_ _) | (with_reducible refine Kd.C_drew ?_))); (case side4 => exact (Kd.R_reads' HO118.out).2.1); (case side5 => first | exact HG.out | exact GTab.below (w := w) HG.out (by repeat (first | (with_reducible first | exact HB.out | apply below_alloc | apply pw_below_drewN | apply below_drew1) | exact HB.out))); rintro e w34 ⟨v130, rfl, ho0, hb⟩; refine ⟨_, rfl, ?_⟩; have n0_ := Aside0.mk (Kd.R_below (by (with_reducible repeat (first | apply Kd.R_alloc | apply Kd.R_drewN | apply Kd.R_drew)); exact HO118.out) hb); have n1_ := Aside0.mk (Kd.R_below (by (with_reducible repeat (first | apply Kd.R_alloc | apply Kd.R_drewN | apply Kd.R_drew)); exact HO127.out) hb); have n2_ := Aside0.mk (Kd.R_lower ho0 (below_size (by repeat (first | (with_reducible first | exact HB.out | apply below_alloc | apply pw_below_drewN | apply below_drew1) | exact HB.out)))); have n3_ := Aside0.mk (below_step (by repeat (first | (with_reducible first | exact HB.out | apply below_alloc | apply pw_below_drewN | apply below_drew1) | exact HB.out)) hb); clear HO118; clear HO127; clear HB; have HO118 := n0_; have HO127 := n1_; have HO131 := n2_; have HB := n3_; clear n0_ n1_ n2_ n3_; (try clear hb); (try clear hb2); (try clear hk); (try clear hi); (try clear ho0); obtain ⟨Ao35, co35, eo35⟩ := Kd.R_slice HO127.out; subst eo35) | ((with_reducible refine gate_callee (f := 10) rfl ?_); refine goesL_ (some 29) rfl rfl Tryz.func10 (by kernel_rfl) rfl #[.string (⟨#[107]⟩ : ByteArray), .int .i64 0, .slice none 0 0, .slice Ao35 y125.length co35] rfl (by (try simp only [List.map_toArray, List.map_cons, List.map_nil]); first | done | rfl | (simp only [List.length_drop, List.length_take]; rfl)) ?_; (refine (slots_Place.calls (⟨#[107]⟩ : ByteArray) 0 _ _ ([] : List (S41)) _ _ y125 t132 t133 _ ?side5 ?side1 ?side2 ?side3 ?side4 A5.out).mono ?_); (case side1 => exact Kd.C_nil _ _); (case side2 => exact Nat.le_refl _); (case side3 => repeat (first | exact (Kd.R_reads' HO127.out).2.2 | (with_reducible refine Kd.C_alloc ?_ _) | (with_reducible refine Kd.C_drewN ?_ _) | (with_reducible refine Kd.C_drew ?_))); (case side4 => exact (Kd.R_reads' HO127.out).2.1); (case side5 => first | exact HG.out | exact GTab.below (w := w) HG.out (by repeat (first | (with_reducible first | exact HB.out | apply below_alloc | apply pw_below_drewN | apply below_drew1) | exact HB.out))); rintro e w36 ⟨v134, rfl, ho0, hb⟩; refine ⟨_, rfl, ?_⟩; have n0_ := Aside0.mk (Kd.R_below (by (with_reducible repeat (first | apply Kd.R_alloc | apply Kd.R_drewN | apply Kd.R_drew)); exact HO118.out) hb); have n1_ := Aside0.mk (Kd.R_below (by (with_reducible repeat (first | apply Kd.R_alloc | apply Kd.R_drewN | apply Kd.R_drew)); exact HO127.out) hb); have n2_ := Aside0.mk (Kd.R_elder' (by (with_reducible repeat (first | apply Kd.R_alloc | apply Kd.R_drewN | apply Kd.R_drew)); exact HO131.out) (Kd.R_base ho0) hb); have n3_ := Aside0.mk (Kd.R_lower (Kd.R_new' ho0 (Kd.R_lt (by (with_reducible repeat (first | apply Kd.R_alloc | apply Kd.R_drewN | apply Kd.R_drew)); exact HO131.out))) (below_size (by repeat (first | (with_reducible first | exact HB.out | apply below_alloc | apply pw_below_drewN | apply below_drew1) | exact HB.out)))); have n4_ := Aside0.mk (below_step (by repeat (first | (with_reducible first | exact HB.out | apply below_alloc | apply pw_below_drewN | apply below_drew1) | exact HB.out)) hb); clear HO118; clear HO127; clear HO131; clear HB; have HO118 := n0_; have HO127 := n1_; have HO131 := n2_; have HO135 := n3_; have HB := n4_; clear n0_ n1_ n2_ n3_ n4_; (try clear hb); (try clear hb2); (try clear hk); (try clear hi); (try clear ho0)) | ((with_reducible refine gate_dst (N := 34) rfl ?_); (try (refine gate_guard (by rfl) ?_; dsimp only)); refine Kd.R_lit k41 _ 41 ?hg (N := 34) ?hd (xs := ([(⟨(⟨#[97]⟩ : ByteArray), (⟨0, 0⟩ : S39), (⟨#[115]⟩ : ByteArray), 3⟩ : S41)] : List (S41))) (inner := [.string (⟨#[97]⟩ : ByteArray), .int .u64 0, .int .u64 0, .string (⟨#[115]⟩ : ByteArray), .int .u64 3]) (ok := fun _ => True) (okp := fun _ => True) ?hr ?hp (fun _ hk => hk) trivial (Below.refl _ _) (Nat.le_refl _) (by simp) ?_; (case hd => rfl); (case hg => rfl); (case hr => first | (go_simp; done) | (go_simp; rfl)); (case hp => exact (Reps.c5 (show Kd.M k41 _ _ _ (⟨(⟨#[97]⟩ : ByteArray), (⟨0, 0⟩ : S39), (⟨#[115]⟩ : ByteArray), 3⟩ : S41) [.string (⟨#[97]⟩ : ByteArray), .int .u64 0, .int .u64 0, .string (⟨#[115]⟩ : ByteArray), .int .u64 3] from (k41_mkM _ _ _ (⟨(⟨#[97]⟩ : ByteArray), (⟨0, 0⟩ : S39), (⟨#[115]⟩ : ByteArray), 3⟩ : S41) )) (Reps.none _ _))); intro v137 w37 ho38 hb hg_ hnew_; clear hg_ hnew_; (first | rw [← Ny136.out] at ho38 | (simp only [Int.reduceToNat] at ho38; rw [← Ny136.out] at ho38)); have n0_ := Aside0.mk (Kd.R_below (by (with_reducible repeat (first | apply Kd.R_alloc | apply Kd.R_drewN | apply Kd.R_drew)); exact HO118.out) hb); have n1_ := Aside0.mk (Kd.R_below (by (with_reducible repeat (first | apply Kd.R_alloc | apply Kd.R_drewN | apply Kd.R_drew)); exact HO127.out) hb); have n2_ := Aside0.mk (Kd.R_elder' (by (with_reducible repeat (first | apply Kd.R_alloc | apply Kd.R_drewN | apply Kd.R_drew)); exact HO131.out) (Kd.R_base ho38) hb); have n3_ := Aside0.mk (Kd.R_elder' (by (with_reducible repeat (first | apply Kd.R_alloc | apply Kd.R_drewN | apply Kd.R_drew)); exact HO135.out) (Kd.R_base ho38) hb); have n4_ := Aside0.mk (Kd.R_lower (Kd.R_new' (Kd.R_new' ho38 (Kd.R_lt (by (with_reducible repeat (first | apply Kd.R_alloc | apply Kd.R_drewN | apply Kd.R_drew)); exact HO131.out))) (Kd.R_lt (by (with_reducible repeat (first | apply Kd.R_alloc | apply Kd.R_drewN | apply Kd.R_drew)); exact HO135.out))) (below_size (by repeat (first | (with_reducible first | exact HB.out | apply below_alloc | apply pw_below_drewN | apply below_drew1) | exact HB.out)))); have n5_ := Aside0.mk (below_step (by repeat (first | (with_reducible first | exact HB.out | apply below_alloc | apply pw_below_drewN | apply below_drew1) | exact HB.out)) hb); clear HO118; clear HO127; clear HO131; clear HO135; clear HB; have HO118 := n0_; have HO127 := n1_; have HO131 := n2_; have HO135 := n3_; have HO138 := n4_; have HB := n5_; clear n0_ n1_ n2_ n3_ n4_ n5_; clear hb ho38; obtain ⟨Ao39, co39, eo39⟩ := Kd.R_slice HO138.out; subst eo39) | ((with_reducible refine gate_callee (f := 10) rfl ?_); refine goesL_ (some 36) rfl rfl Tryz.func10 (by kernel_rfl) rfl #[.string (⟨#[107]⟩ : ByteArray), .int .i64 2, .slice Ao39 y136.length co39, .slice Ao35 y125.length co35] rfl (by (try simp only [List.map_toArray, List.map_cons, List.map_nil]); first | done | rfl | (simp only [List.length_drop, List.length_take]; rfl)) ?_; (with_reducible refine (slots_Place.calls (⟨#[107]⟩ : ByteArray) 2 _ _ y136 _ _ y125 t139 t140 _ ?side5 ?side1 ?side2 ?side3 ?side4 A6.out).mono ?_); (case side1 => repeat (first | exact (Kd.R_reads' HO138.out).2.2 | (with_reducible refine Kd.C_alloc ?_ _) | (with_reducible refine Kd.C_drewN ?_ _) | (with_reducible refine Kd.C_drew ?_))); (case side2 => exact (Kd.R_reads' HO138.out).2.1); (case side3 => repeat (first | exact (Kd.R_reads' HO127.out).2.2 | (with_reducible refine Kd.C_alloc ?_ _) | (with_reducible refine Kd.C_drewN ?_ _) | (with_reducible refine Kd.C_drew ?_))); (case side4 => exact (Kd.R_reads' HO127.out).2.1); (case side5 => first | exact HG.out | exact GTab.below (w := w) HG.out (by repeat (first | (with_reducible first | exact HB.out | apply below_alloc | apply pw_below_drewN | apply below_drew1) | exact HB.out))); rintro e w40 ⟨v141, rfl, ho0, hb⟩; refine ⟨_, rfl, ?_⟩; have n0_ := Aside0.mk (Kd.R_below (by (with_reducible repeat (first | apply Kd.R_alloc | apply Kd.R_drewN | apply Kd.R_drew)); exact HO118.out) hb); have n1_ := Aside0.mk (Kd.R_below (by (with_reducible repeat (first | apply Kd.R_alloc | apply Kd.R_drewN | apply Kd.R_drew)); exact HO127.out) hb); have n2_ := Aside0.mk (Kd.R_elder' (by (with_reducible repeat (first | apply Kd.R_alloc | apply Kd.R_drewN | apply Kd.R_drew)); exact HO131.out) (Kd.R_base ho0) hb); have n3_ := Aside0.mk (Kd.R_elder' (by (with_reducible repeat (first | apply Kd.R_alloc | apply Kd.R_drewN | apply Kd.R_drew)); exact HO135.out) (Kd.R_base ho0) hb); have n4_ := Aside0.mk (Kd.R_elder' (by (with_reducible repeat (first | apply Kd.R_alloc | apply Kd.R_drewN | apply Kd.R_drew)); exact HO138.out) (Kd.R_base ho0) hb); have n5_ := Aside0.mk (Kd.R_lower (Kd.R_new' (Kd.R_new' (Kd.R_new' ho0 (Kd.R_lt (by (with_reducible repeat (first | apply Kd.R_alloc | apply Kd.R_drewN | apply Kd.R_drew)); exact HO131.out))) (Kd.R_lt (by (with_reducible repeat (first | apply Kd.R_alloc | apply Kd.R_drewN | apply Kd.R_drew)); exact HO135.out))) (Kd.R_lt (by (with_reducible repeat (first | apply Kd.R_alloc | apply Kd.R_drewN | apply Kd.R_drew)); exact HO138.out))) (below_size (by repeat (first | (with_reducible first | exact HB.out | apply below_alloc | apply pw_below_drewN | apply below_drew1) | exact HB.out)))); have n6_ := Aside0.mk (below_step (by repeat (first | (with_reducible first | exact HB.out | apply below_alloc | apply pw_below_drewN | apply below_drew1) | exact HB.out)) hb); clear HO118; clear HO127; clear HO131; clear HO135; clear HO138; clear HB; have HO118 := n0_; have HO127 := n1_; have HO131 := n2_; have HO135 := n3_; have HO138 := n4_; have HO142 := n5_; have HB := n6_; clear n0_ n1_ n2_ n3_ n4_ n5_ n6_; (try clear hb); (try clear hb2); (try clear hk); (try clear hi); (try clear ho0)) | ((with_reducible refine gate_callee (f := 10) rfl ?_); refine goesL_ (some 41) rfl rfl Tryz.func10 (by kernel_rfl) rfl #[.string (⟨#[107]⟩ : ByteArray), .int .i64 11, .slice none 0 0, .slice Ao32 y116.length co32] rfl (by (try simp only [List.map_toArray, List.map_cons, List.map_nil]); first | done | rfl | (simp only [List.length_drop, List.length_take]; rfl)) ?_; (refine (slots_Place.calls (⟨#[107]⟩ : ByteArray) 11 _ _ ([] : List (S41)) _ _ y116 t143 t144 _ ?side5 ?side1 ?side2 ?side3 ?side4 A7.out).mono ?_); (case side1 => exact Kd.C_nil _ _); (case side2 => exact Nat.le_refl _); (case side3 => repeat (first | exact (Kd.R_reads' HO118.out).2.2 | (with_reducible refine Kd.C_alloc ?_ _) | (with_reducible refine Kd.C_drewN ?_ _) | (with_reducible refine Kd.C_drew ?_))); (case side4 => exact (Kd.R_reads' HO118.out).2.1); (case side5 => first | exact HG.out | exact GTab.below (w := w) HG.out (by repeat (first | (with_reducible first | exact HB.out | apply below_alloc | apply pw_below_drewN | apply below_drew1) | exact HB.out))); rintro e w41 ⟨v145, rfl, ho0, hb⟩; refine ⟨_, rfl, ?_⟩; have n0_ := Aside0.mk (Kd.R_below (by (with_reducible repeat (first | apply Kd.R_alloc | apply Kd.R_drewN | apply Kd.R_drew)); exact HO118.out) hb); have n1_ := Aside0.mk (Kd.R_below (by (with_reducible repeat (first | apply Kd.R_alloc | apply Kd.R_drewN | apply Kd.R_drew)); exact HO127.out) hb); have n2_ := Aside0.mk (Kd.R_elder' (by (with_reducible repeat (first | apply Kd.R_alloc | apply Kd.R_drewN | apply Kd.R_drew)); exact HO131.out) (Kd.R_base ho0) hb); have n3_ := Aside0.mk (Kd.R_elder' (by (with_reducible repeat (first | apply Kd.R_alloc | apply Kd.R_drewN | apply Kd.R_drew)); exact HO135.out) (Kd.R_base ho0) hb); have n4_ := Aside0.mk (Kd.R_elder' (by (with_reducible repeat (first | apply Kd.R_alloc | apply Kd.R_drewN | apply Kd.R_drew)); exact HO138.out) (Kd.R_base ho0) hb); have n5_ := Aside0.mk (Kd.R_elder' (by (with_reducible repeat (first | apply Kd.R_alloc | apply Kd.R_drewN | apply Kd.R_drew)); exact HO142.out) (Kd.R_base ho0) hb); have n6_ := Aside0.mk (Kd.R_lower (Kd.R_new' (Kd.R_new' (Kd.R_new' (Kd.R_new' ho0 (Kd.R_lt (by (with_reducible repeat (first | apply Kd.R_alloc | apply Kd.R_drewN | apply Kd.R_drew)); exact HO131.out))) (Kd.R_lt (by (with_reducible repeat (first | apply Kd.R_alloc | apply Kd.R_drewN | apply Kd.R_drew)); exact HO135.out))) (Kd.R_lt (by (with_reducible repeat (first | apply Kd.R_alloc | apply Kd.R_drewN | apply Kd.R_drew)); exact HO138.out))) (Kd.R_lt (by (with_reducible repeat (first | apply Kd.R_alloc | apply Kd.R_drewN | apply Kd.R_drew)); exact HO142.out))) (below_size (by repeat (first | (with_reducible first | exact HB.out | apply below_alloc | apply pw_below_drewN | apply below_drew1) | exact HB.out)))); have n7_ := Aside0.mk (below_step (by repeat (first | (with_reducible first | exact HB.out | apply below_alloc | apply pw_below_drewN | apply below_drew1) | exact HB.out)) hb); clear HO118; clear HO127; clear HO131; clear HO135; clear HO138; clear HO142; clear HB; have HO118 := n0_; have HO127 := n1_; have HO131 := n2_; have HO135 := n3_; have HO138 := n4_; have HO142 := n5_; have HO146 := n6_; have HB := n7_; clear n0_ n1_ n2_ n3_ n4_ n5_ n6_ n7_; (try clear hb); (try clear hb2); (try clear hk); (try clear hi); (try clear ho0)) | ((with_reducible refine gate_dst (N := 47) rfl ?_); (try (refine gate_guard (by rfl) ?_; dsimp only)); refine Kd.R_lit k41 _ 41 ?hg (N := 47) ?hd (xs := ([(⟨(⟨#[]⟩ : ByteArray), (⟨0, 0⟩ : S39), (⟨#[]⟩ : ByteArray), 3⟩ : S41), (⟨(⟨#[]⟩ : ByteArray), (⟨0, 0⟩ : S39), (⟨#[]⟩ : ByteArray), 0⟩ : S41)] : List (S41))) (inner := [.string (⟨#[]⟩ : ByteArray), .int .u64 0, .int .u64 0, .string (⟨#[]⟩ : ByteArray), .int .u64 3, .string (⟨#[]⟩ : ByteArray), .int .u64 0, .int .u64 0, .string (⟨#[]⟩ : ByteArray), .int .u64 0]) (ok := fun _ => True) (okp := fun _ => True) ?hr ?hp (fun _ hk => hk) trivial (Below.refl _ _) (Nat.le_refl _) (by simp) ?_; (case hd => rfl); (case hg => rfl); (case hr => first | (go_simp; done) | (go_simp; rfl)); (case hp => exact (Reps.c5 (show Kd.M k41 _ _ _ (⟨(⟨#[]⟩ : ByteArray), (⟨0, 0⟩ : S39), (⟨#[]⟩ : ByteArray), 3⟩ : S41) [.string (⟨#[]⟩ : ByteArray), .int .u64 0, .int .u64 0, .string (⟨#[]⟩ : ByteArray), .int .u64 3] from (k41_mkM _ _ _ (⟨(⟨#[]⟩ : ByteArray), (⟨0, 0⟩ : S39), (⟨#[]⟩ : ByteArray), 3⟩ : S41) )) (Reps.c5 (show Kd.M k41 _ _ _ (⟨(⟨#[]⟩ : ByteArray), (⟨0, 0⟩ : S39), (⟨#[]⟩ : ByteArray), 0⟩ : S41) [.string (⟨#[]⟩ : ByteArray), .int .u64 0, .int .u64 0, .string (⟨#[]⟩ : ByteArray), .int .u64 0] from (k41_mkM _ _ _ (⟨(⟨#[]⟩ : ByteArray), (⟨0, 0⟩ : S39), (⟨#[]⟩ : ByteArray), 0⟩ : S41) )) (Reps.none _ _)))); intro v148 w42 ho43 hb hg_ hnew_; clear hg_ hnew_; (first | rw [← Ny147.out] at ho43 | (simp only [Int.reduceToNat] at ho43; rw [← Ny147.out] at ho43)); have n0_ := Aside0.mk (Kd.R_below (by (with_reducible repeat (first | apply Kd.R_alloc | apply Kd.R_drewN | apply Kd.R_drew)); exact HO118.out) hb); have n1_ := Aside0.mk (Kd.R_below (by (with_reducible repeat (first | apply Kd.R_alloc | apply Kd.R_drewN | apply Kd.R_drew)); exact HO127.out) hb); have n2_ := Aside0.mk (Kd.R_elder' (by (with_reducible repeat (first | apply Kd.R_alloc | apply Kd.R_drewN | apply Kd.R_drew)); exact HO131.out) (Kd.R_base ho43) hb); have n3_ := Aside0.mk (Kd.R_elder' (by (with_reducible repeat (first | apply Kd.R_alloc | apply Kd.R_drewN | apply Kd.R_drew)); exact HO135.out) (Kd.R_base ho43) hb); have n4_ := Aside0.mk (Kd.R_elder' (by (with_reducible repeat (first | apply Kd.R_alloc | apply Kd.R_drewN | apply Kd.R_drew)); exact HO138.out) (Kd.R_base ho43) hb); have n5_ := Aside0.mk (Kd.R_elder' (by (with_reducible repeat (first | apply Kd.R_alloc | apply Kd.R_drewN | apply Kd.R_drew)); exact HO142.out) (Kd.R_base ho43) hb); have n6_ := Aside0.mk (Kd.R_elder' (by (with_reducible repeat (first | apply Kd.R_alloc | apply Kd.R_drewN | apply Kd.R_drew)); exact HO146.out) (Kd.R_base ho43) hb); have n7_ := Aside0.mk (Kd.R_lower (Kd.R_new' (Kd.R_new' (Kd.R_new' (Kd.R_new' (Kd.R_new' ho43 (Kd.R_lt (by (with_reducible repeat (first | apply Kd.R_alloc | apply Kd.R_drewN | apply Kd.R_drew)); exact HO131.out))) (Kd.R_lt (by (with_reducible repeat (first | apply Kd.R_alloc | apply Kd.R_drewN | apply Kd.R_drew)); exact HO135.out))) (Kd.R_lt (by (with_reducible repeat (first | apply Kd.R_alloc | apply Kd.R_drewN | apply Kd.R_drew)); exact HO138.out))) (Kd.R_lt (by (with_reducible repeat (first | apply Kd.R_alloc | apply Kd.R_drewN | apply Kd.R_drew)); exact HO142.out))) (Kd.R_lt (by (with_reducible repeat (first | apply Kd.R_alloc | apply Kd.R_drewN | apply Kd.R_drew)); exact HO146.out))) (below_size (by repeat (first | (with_reducible first | exact HB.out | apply below_alloc | apply pw_below_drewN | apply below_drew1) | exact HB.out)))); have n8_ := Aside0.mk (below_step (by repeat (first | (with_reducible first | exact HB.out | apply below_alloc | apply pw_below_drewN | apply below_drew1) | exact HB.out)) hb); clear HO118; clear HO127; clear HO131; clear HO135; clear HO138; clear HO142; clear HO146; clear HB; have HO118 := n0_; have HO127 := n1_; have HO131 := n2_; have HO135 := n3_; have HO138 := n4_; have HO142 := n5_; have HO146 := n6_; have HO149 := n7_; have HB := n8_; clear n0_ n1_ n2_ n3_ n4_ n5_ n6_ n7_ n8_; clear hb ho43; obtain ⟨Ao44, co44, eo44⟩ := Kd.R_slice HO149.out; subst eo44) | ((with_reducible refine gate_callee (f := 44) rfl ?_); refine goesL_ (some 48) rfl rfl Tryz.func44 (by kernel_rfl) rfl #[.slice Ao44 y147.length co44, .int .i64 2, .int .u64 3] rfl (by (try simp only [List.map_toArray, List.map_cons, List.map_nil]); first | done | rfl | (simp only [List.length_drop, List.length_take]; rfl)) ?_; (with_reducible refine (slots_Free.calls _ _ y147 2 3 t150 t151 _ ?side1 ?side2 A8.out).mono ?_); (case side1 => repeat (first | exact (Kd.R_reads' HO149.out).2.2 | (with_reducible refine Kd.C_alloc ?_ _) | (with_reducible refine Kd.C_drewN ?_ _) | (with_reducible refine Kd.C_drew ?_))); (case side2 => exact (Kd.R_reads' HO149.out).2.1); rintro e w45 ⟨rfl, hb⟩; refine ⟨_, rfl, ?_⟩; have n0_ := Aside0.mk (Kd.R_below (by (with_reducible repeat (first | apply Kd.R_alloc | apply Kd.R_drewN | apply Kd.R_drew)); exact HO118.out) hb); have n1_ := Aside0.mk (Kd.R_below (by (with_reducible repeat (first | apply Kd.R_alloc | apply Kd.R_drewN | apply Kd.R_drew)); exact HO127.out) hb); have n2_ := Aside0.mk (Kd.R_below (by (with_reducible repeat (first | apply Kd.R_alloc | apply Kd.R_drewN | apply Kd.R_drew)); exact HO131.out) hb); have n3_ := Aside0.mk (Kd.R_below (by (with_reducible repeat (first | apply Kd.R_alloc | apply Kd.R_drewN | apply Kd.R_drew)); exact HO135.out) hb); have n4_ := Aside0.mk (Kd.R_below (by (with_reducible repeat (first | apply Kd.R_alloc | apply Kd.R_drewN | apply Kd.R_drew)); exact HO138.out) hb); have n5_ := Aside0.mk (Kd.R_below (by (with_reducible repeat (first | apply Kd.R_alloc | apply Kd.R_drewN | apply Kd.R_drew)); exact HO142.out) hb); have n6_ := Aside0.mk (Kd.R_below (by (with_reducible repeat (first | apply Kd.R_alloc | apply Kd.R_drewN | apply Kd.R_drew)); exact HO146.out) hb); have n7_ := Aside0.mk (Kd.R_below (by (with_reducible repeat (first | apply Kd.R_alloc | apply Kd.R_drewN | apply Kd.R_drew)); exact HO149.out) hb); have n8_ := Aside0.mk (below_step (by repeat (first | (with_reducible first | exact HB.out | apply below_alloc | apply pw_below_drewN | apply below_drew1) | exact HB.out)) hb); clear HO118; clear HO127; clear HO131; clear HO135; clear HO138; clear HO142; clear HO146; clear HO149; clear HB; have HO118 := n0_; have HO127 := n1_; have HO131 := n2_; have HO135 := n3_; have HO138 := n4_; have HO142 := n5_; have HO146 := n6_; have HO149 := n7_; have HB := n8_; clear n0_ n1_ n2_ n3_ n4_ n5_ n6_ n7_ n8_; (try clear hb); (try clear hb2); (try clear hk); (try clear hi)))
                 have n0_ := Aside0.mk (Kd.R_drew HO118.out)
                 have n1_ := Aside0.mk (Kd.R_drew HO127.out)
                 have n2_ := Aside0.mk (Kd.R_drew HO131.out)
                 have n3_ := Aside0.mk (Kd.R_drew HO135.out)
                 have n4_ := Aside0.mk (Kd.R_drew HO138.out)
                 have n5_ := Aside0.mk (Kd.R_drew HO142.out)
                 have n6_ := Aside0.mk (Kd.R_drew HO146.out)
                 have n7_ := Aside0.mk (Kd.R_drew HO149.out)
                 have n8_ := Aside0.mk (below_drew1 HB.out)
                 clear HO118
                 clear HO127
                 clear HO131
                 clear HO135
                 clear HO138
                 clear HO142
                 clear HO146
                 clear HO149
                 clear HB
                 have HO118 := n0_
                 have HO127 := n1_
                 have HO131 := n2_
                 have HO135 := n3_
                 have HO138 := n4_
                 have HO142 := n5_
                 have HO146 := n6_
                 have HO149 := n7_
                 have HB := n8_
                 clear n0_ n1_ n2_ n3_ n4_ n5_ n6_ n7_ n8_
                 obtain ⟨Ao47, co47, eo47⟩ := Kd.R_slice HO131.out
                 (first | subst eo47 | (injection eo47 with f1_ f2_ f3_; have f4_ := f1_.symm; have f5_ := f3_.symm; clear f1_ f2_ f3_; subst f4_; subst f5_))
                 obtain ⟨Ao48, co48, rfl⟩ := Kd.R_slice HO142.out
                 have p152 : 0 ≤ (0 : Int) := (by omega)
                 have q152 : 0 < (t128.length : Int) := of_decide_eq_true (by first | (with_reducible assumption) | assumption)
                 obtain ⟨ad152, e152, hx152_0, hx152_1, hx152_2, hx152_3, hx152_4⟩ := at_T41 (Kd.R_reads' HO131.out).2.2 0 p152 q152
                 cases e152
                 have qi152 : (0 < t128.length) = True := eq_true (by omega)
                 (try rw [show ((0 : Int)).toNat = 0 from rfl] at hx152_0)
                 (try rw [show 0 * 5 = 0 from rfl] at hx152_0)
                 (try rw [Addr.add_zero'] at hx152_0)
                 (try rw [show ((0 : Int)).toNat = 0 from rfl] at hx152_1)
                 (try rw [show 0 * 5 = 0 from rfl] at hx152_1)
                 (try rw [Addr.add_zero'] at hx152_1)
                 (try rw [show ((0 : Int)).toNat = 0 from rfl] at hx152_2)
                 (try rw [show 0 * 5 = 0 from rfl] at hx152_2)
                 (try rw [Addr.add_zero'] at hx152_2)
                 (try rw [show ((0 : Int)).toNat = 0 from rfl] at hx152_3)
                 (try rw [show 0 * 5 = 0 from rfl] at hx152_3)
                 (try rw [Addr.add_zero'] at hx152_3)
                 (try rw [show ((0 : Int)).toNat = 0 from rfl] at hx152_4)
                 (try rw [show 0 * 5 = 0 from rfl] at hx152_4)
                 (try rw [Addr.add_zero'] at hx152_4)
                 replace p152 := eq_true p152
                 replace q152 := eq_true q152
                 have p156 : 0 ≤ (0 : Int) := (by omega)
                 have q156 : 0 < (t139.length : Int) := of_decide_eq_true (by first | (with_reducible assumption) | assumption)
                 obtain ⟨ad156, e156, hx156_0, hx156_1, hx156_2, hx156_3, hx156_4⟩ := at_T41 (Kd.R_reads' HO142.out).2.2 0 p156 q156
                 cases e156
                 have qi156 : (0 < t139.length) = True := eq_true (by omega)
                 (try rw [show ((0 : Int)).toNat = 0 from rfl] at hx156_0)
                 (try rw [show 0 * 5 = 0 from rfl] at hx156_0)
                 (try rw [Addr.add_zero'] at hx156_0)
                 (try rw [show ((0 : Int)).toNat = 0 from rfl] at hx156_1)
                 (try rw [show 0 * 5 = 0 from rfl] at hx156_1)
                 (try rw [Addr.add_zero'] at hx156_1)
                 (try rw [show ((0 : Int)).toNat = 0 from rfl] at hx156_2)
                 (try rw [show 0 * 5 = 0 from rfl] at hx156_2)
                 (try rw [Addr.add_zero'] at hx156_2)
                 (try rw [show ((0 : Int)).toNat = 0 from rfl] at hx156_3)
                 (try rw [show 0 * 5 = 0 from rfl] at hx156_3)
                 (try rw [Addr.add_zero'] at hx156_3)
                 (try rw [show ((0 : Int)).toNat = 0 from rfl] at hx156_4)
                 (try rw [show 0 * 5 = 0 from rfl] at hx156_4)
                 (try rw [Addr.add_zero'] at hx156_4)
                 replace p156 := eq_true p156
                 replace q156 := eq_true q156
                 have p159 : 0 ≤ (1 : Int) := (by omega)
                 have q159 : 1 < (t139.length : Int) := of_decide_eq_true (by first | (with_reducible assumption) | assumption)
                 obtain ⟨ad159, e159, hx159_0, hx159_1, hx159_2, hx159_3, hx159_4⟩ := at_T41 (Kd.R_reads' HO142.out).2.2 1 p159 q159
                 obtain rfl : ad156 = ad159 := (by injection e159)
                 (try simp only [show (1 : Int).toNat = 1 from rfl, Nat.reduceMul, Nat.reduceEqDiff, Go.Addr.add, ↓reduceIte] at hx159_0)
                 (try simp only [show (1 : Int).toNat = 1 from rfl, Nat.reduceMul, Nat.reduceEqDiff, Go.Addr.add, ↓reduceIte] at hx159_1)
                 (try simp only [show (1 : Int).toNat = 1 from rfl, Nat.reduceMul, Nat.reduceEqDiff, Go.Addr.add, ↓reduceIte] at hx159_2)
                 (try simp only [show (1 : Int).toNat = 1 from rfl, Nat.reduceMul, Nat.reduceEqDiff, Go.Addr.add, ↓reduceIte] at hx159_3)
                 (try simp only [show (1 : Int).toNat = 1 from rfl, Nat.reduceMul, Nat.reduceEqDiff, Go.Addr.add, ↓reduceIte] at hx159_4)
                 have qi159 : (1 < t139.length) = True := eq_true (by omega)
                 (try rw [show ((1 : Int)).toNat = 1 from rfl] at hx159_0)
                 (try rw [show 1 * 5 = 5 from rfl] at hx159_0)
                 (try rw [show ((1 : Int)).toNat = 1 from rfl] at hx159_1)
                 (try rw [show 1 * 5 = 5 from rfl] at hx159_1)
                 (try rw [show ((1 : Int)).toNat = 1 from rfl] at hx159_2)
                 (try rw [show 1 * 5 = 5 from rfl] at hx159_2)
                 (try rw [show ((1 : Int)).toNat = 1 from rfl] at hx159_3)
                 (try rw [show 1 * 5 = 5 from rfl] at hx159_3)
                 (try rw [show ((1 : Int)).toNat = 1 from rfl] at hx159_4)
                 (try rw [show 1 * 5 = 5 from rfl] at hx159_4)
                 replace p159 := eq_true p159
                 replace q159 := eq_true q159
                 have p160 : 0 ≤ (1 : Int) := (by omega)
                 have q160 : 1 < (t139.length : Int) := of_decide_eq_true (by first | (with_reducible assumption) | assumption)
                 obtain ⟨ad160, e160, hx160_0, hx160_1, hx160_2, hx160_3, hx160_4⟩ := at_T41 (Kd.R_reads' HO142.out).2.2 1 p160 q160
                 obtain rfl : ad156 = ad160 := (by injection e160)
                 (try simp only [show (1 : Int).toNat = 1 from rfl, Nat.reduceMul, Nat.reduceEqDiff, Go.Addr.add, ↓reduceIte] at hx160_0)
                 (try simp only [show (1 : Int).toNat = 1 from rfl, Nat.reduceMul, Nat.reduceEqDiff, Go.Addr.add, ↓reduceIte] at hx160_1)
                 (try simp only [show (1 : Int).toNat = 1 from rfl, Nat.reduceMul, Nat.reduceEqDiff, Go.Addr.add, ↓reduceIte] at hx160_2)
                 (try simp only [show (1 : Int).toNat = 1 from rfl, Nat.reduceMul, Nat.reduceEqDiff, Go.Addr.add, ↓reduceIte] at hx160_3)
                 (try simp only [show (1 : Int).toNat = 1 from rfl, Nat.reduceMul, Nat.reduceEqDiff, Go.Addr.add, ↓reduceIte] at hx160_4)
                 have qi160 : (1 < t139.length) = True := eq_true (by omega)
                 (try rw [show ((1 : Int)).toNat = 1 from rfl] at hx160_0)
                 (try rw [show 1 * 5 = 5 from rfl] at hx160_0)
                 (try rw [show ((1 : Int)).toNat = 1 from rfl] at hx160_1)
                 (try rw [show 1 * 5 = 5 from rfl] at hx160_1)
                 (try rw [show ((1 : Int)).toNat = 1 from rfl] at hx160_2)
                 (try rw [show 1 * 5 = 5 from rfl] at hx160_2)
                 (try rw [show ((1 : Int)).toNat = 1 from rfl] at hx160_3)
                 (try rw [show 1 * 5 = 5 from rfl] at hx160_3)
                 (try rw [show ((1 : Int)).toNat = 1 from rfl] at hx160_4)
                 (try rw [show 1 * 5 = 5 from rfl] at hx160_4)
                 replace p160 := eq_true p160
                 replace q160 := eq_true q160
                 refine start_ (n := 63) (S := fun w' => w'.cell? ad152 = some (.string ((rd_T41 t128 0).f0)) ∧ w'.cell? ⟨ad152.block, ad152.off + 1, none⟩ = some (.int .u64 ((rd_T41 t128 0).f1.f0)) ∧ w'.cell? ⟨ad152.block, ad152.off + 2, none⟩ = some (.int .u64 ((rd_T41 t128 0).f1.f1)) ∧ w'.cell? ⟨ad152.block, ad152.off + 3, none⟩ = some (.string ((rd_T41 t128 0).f2)) ∧ w'.cell? ⟨ad152.block, ad152.off + 4, none⟩ = some (.int .u64 ((rd_T41 t128 0).f3)) ∧ w'.cell? ad156 = some (.string ((rd_T41 t139 0).f0)) ∧ w'.cell? ⟨ad156.block, ad156.off + 1, none⟩ = some (.int .u64 ((rd_T41 t139 0).f1.f0)) ∧ w'.cell? ⟨ad156.block, ad156.off + 2, none⟩ = some (.int .u64 ((rd_T41 t139 0).f1.f1)) ∧ w'.cell? ⟨ad156.block, ad156.off + 3, none⟩ = some (.string ((rd_T41 t139 0).f2)) ∧ w'.cell? ⟨ad156.block, ad156.off + 4, none⟩ = some (.int .u64 ((rd_T41 t139 0).f3)) ∧ w'.cell? ⟨ad156.block, ad156.off + 5, none⟩ = some (.string ((rd_T41 t139 1).f0)) ∧ w'.cell? ⟨ad156.block, ad156.off + 5 + 1, none⟩ = some (.int .u64 ((rd_T41 t139 1).f1.f0)) ∧ w'.cell? ⟨ad156.block, ad156.off + 5 + 2, none⟩ = some (.int .u64 ((rd_T41 t139 1).f1.f1)) ∧ w'.cell? ⟨ad156.block, ad156.off + 5 + 3, none⟩ = some (.string ((rd_T41 t139 1).f2)) ∧ w'.cell? ⟨ad156.block, ad156.off + 5 + 4, none⟩ = some (.int .u64 ((rd_T41 t139 1).f3)) ∧ w'.cell? ⟨ad156.block, ad156.off + 5, none⟩ = some (.string ((rd_T41 t139 1).f0)) ∧ w'.cell? ⟨ad156.block, ad156.off + 5 + 1, none⟩ = some (.int .u64 ((rd_T41 t139 1).f1.f0)) ∧ w'.cell? ⟨ad156.block, ad156.off + 5 + 2, none⟩ = some (.int .u64 ((rd_T41 t139 1).f1.f1)) ∧ w'.cell? ⟨ad156.block, ad156.off + 5 + 3, none⟩ = some (.string ((rd_T41 t139 1).f2)) ∧ w'.cell? ⟨ad156.block, ad156.off + 5 + 4, none⟩ = some (.int .u64 ((rd_T41 t139 1).f3))) (ds := []) #[false, false, false, false, false, false, false, false, false, false, false, false, false, false, false, false, false, false, false, false, false, false, false, false, false, false, false, false, false, false, false, false, false, false, false, false, false, false, false, false, false, false, false, false, false, false, false, false, false, false, false, false, false, false, false, false, false, false, false, false, false, false, false] (by kernel_rfl) rfl rfl ⟨hx152_0, hx152_1, hx152_2, hx152_3, hx152_4, hx156_0, hx156_1, hx156_2, hx156_3, hx156_4, hx159_0, hx159_1, hx159_2, hx159_3, hx159_4, hx160_0, hx160_1, hx160_2, hx160_3, hx160_4⟩ (fun hHeld => ?_); refine with_tabW awake0.tab8 awake0.bits8 (fun HT_ HW_ => ?_)
                 generalize w45.drew = w46 at HO118 HO127 HO131 HO135 HO138 HO142 HO146 HO149 HB hx152_0 hx152_1 hx152_2 hx152_3 hx152_4 hx156_0 hx156_1 hx156_2 hx156_3 hx156_4 hx159_0 hx159_1 hx159_2 hx159_3 hx159_4 hx160_0 hx160_1 hx160_2 hx160_3 hx160_4 hHeld ⊢
                 refine p_ 0 (some 51) HT_ ?_
                 refine p_ 1 (some 52) HT_ ?_
                 refine p_ 2 (some 53) HT_ ?_
                 refine p_ 3 (some 54) HT_ ?_
                 refine p_ 4 (some 55) HT_ ?_
                 refine p_ 5 (some 56) HT_ ?_
                 refine p_ 6 (some 57) HT_ ?_
                 refine p_ 7 (some 58) HT_ ?_
                 refine p_ 8 (some 59) HT_ ?_
                 refine p_ 9 (some 60) HT_ ?_
                 refine t_ 10 (some 61) HT_ HW_ hHeld ?_
                 refine one_ (i := 11) (N := some 62) #[true, true, true, true, true, true, true, true, true, true, true, true, false, false, false, false, false, false, false, false, false, false, false, false, false, false, false, false, false, false, false, false, false, false, false, false, false, false, false, false, false, false, false, false, false, false, false, false, false, false, false, false, false, false, false, false, false, false, false, false, false, false, false] rfl rfl (one_of HT_.out (by kernel_rfl)) (by decide) (fun K hK => ?_)
                 refine goes_ Tryz.func43 (by kernel_rfl) rfl #[.int .u64 5] (by rfl) rfl rfl (by (try simp only [List.map_toArray, List.map_cons, List.map_nil]); first | done | rfl | (simp only [List.length_drop, List.length_take]; rfl)) ?_
                 with_reducible refine (u128_Of.calls 5 t153 t154 _ A12.out).mono ?_
                 rintro e w48 ⟨rfl, hb⟩
                 have HS0_ := (hb.cell (World.block_lt_of_cell? _ _ (hHeld.1))).trans (hHeld.1)
                 have HS1_ := (hb.cell (World.block_lt_of_cell? _ _ (hHeld.2.1))).trans (hHeld.2.1)
                 have HS2_ := (hb.cell (World.block_lt_of_cell? _ _ (hHeld.2.2.1))).trans (hHeld.2.2.1)
                 have HS3_ := (hb.cell (World.block_lt_of_cell? _ _ (hHeld.2.2.2.1))).trans (hHeld.2.2.2.1)
                 have HS4_ := (hb.cell (World.block_lt_of_cell? _ _ (hHeld.2.2.2.2.1))).trans (hHeld.2.2.2.2.1)
                 have HS5_ := (hb.cell (World.block_lt_of_cell? _ _ (hHeld.2.2.2.2.2.1))).trans (hHeld.2.2.2.2.2.1)
                 have HS6_ := (hb.cell (World.block_lt_of_cell? _ _ (hHeld.2.2.2.2.2.2.1))).trans (hHeld.2.2.2.2.2.2.1)
                 have HS7_ := (hb.cell (World.block_lt_of_cell? _ _ (hHeld.2.2.2.2.2.2.2.1))).trans (hHeld.2.2.2.2.2.2.2.1)
                 have HS8_ := (hb.cell (World.block_lt_of_cell? _ _ (hHeld.2.2.2.2.2.2.2.2.1))).trans (hHeld.2.2.2.2.2.2.2.2.1)
                 have HS9_ := (hb.cell (World.block_lt_of_cell? _ _ (hHeld.2.2.2.2.2.2.2.2.2.1))).trans (hHeld.2.2.2.2.2.2.2.2.2.1)
                 have HS10_ := (hb.cell (World.block_lt_of_cell? _ _ (hHeld.2.2.2.2.2.2.2.2.2.2.1))).trans (hHeld.2.2.2.2.2.2.2.2.2.2.1)
                 have HS11_ := (hb.cell (World.block_lt_of_cell? _ _ (hHeld.2.2.2.2.2.2.2.2.2.2.2.1))).trans (hHeld.2.2.2.2.2.2.2.2.2.2.2.1)
                 have HS12_ := (hb.cell (World.block_lt_of_cell? _ _ (hHeld.2.2.2.2.2.2.2.2.2.2.2.2.1))).trans (hHeld.2.2.2.2.2.2.2.2.2.2.2.2.1)
                 have HS13_ := (hb.cell (World.block_lt_of_cell? _ _ (hHeld.2.2.2.2.2.2.2.2.2.2.2.2.2.1))).trans (hHeld.2.2.2.2.2.2.2.2.2.2.2.2.2.1)
                 have HS14_ := (hb.cell (World.block_lt_of_cell? _ _ (hHeld.2.2.2.2.2.2.2.2.2.2.2.2.2.2.1))).trans (hHeld.2.2.2.2.2.2.2.2.2.2.2.2.2.2.1)
                 have HS15_ := (hb.cell (World.block_lt_of_cell? _ _ (hHeld.2.2.2.2.2.2.2.2.2.2.2.2.2.2.2.1))).trans (hHeld.2.2.2.2.2.2.2.2.2.2.2.2.2.2.2.1)
                 have HS16_ := (hb.cell (World.block_lt_of_cell? _ _ (hHeld.2.2.2.2.2.2.2.2.2.2.2.2.2.2.2.2.1))).trans (hHeld.2.2.2.2.2.2.2.2.2.2.2.2.2.2.2.2.1)
                 have HS17_ := (hb.cell (World.block_lt_of_cell? _ _ (hHeld.2.2.2.2.2.2.2.2.2.2.2.2.2.2.2.2.2.1))).trans (hHeld.2.2.2.2.2.2.2.2.2.2.2.2.2.2.2.2.2.1)
                 have HS18_ := (hb.cell (World.block_lt_of_cell? _ _ (hHeld.2.2.2.2.2.2.2.2.2.2.2.2.2.2.2.2.2.2.1))).trans (hHeld.2.2.2.2.2.2.2.2.2.2.2.2.2.2.2.2.2.2.1)
                 have HS19_ := (hb.cell (World.block_lt_of_cell? _ _ (hHeld.2.2.2.2.2.2.2.2.2.2.2.2.2.2.2.2.2.2.2))).trans (hHeld.2.2.2.2.2.2.2.2.2.2.2.2.2.2.2.2.2.2.2)
                 refine ⟨_, rfl, ?_⟩
                 have n0_ := Aside0.mk (Kd.R_below (by (with_reducible repeat (first | apply Kd.R_alloc | apply Kd.R_drewN | apply Kd.R_drew)); exact HO118.out) hb)
                 have n1_ := Aside0.mk (Kd.R_below (by (with_reducible repeat (first | apply Kd.R_alloc | apply Kd.R_drewN | apply Kd.R_drew)); exact HO127.out) hb)
                 have n2_ := Aside0.mk (Kd.R_below (by (with_reducible repeat (first | apply Kd.R_alloc | apply Kd.R_drewN | apply Kd.R_drew)); exact HO131.out) hb)
                 have n3_ := Aside0.mk (Kd.R_below (by (with_reducible repeat (first | apply Kd.R_alloc | apply Kd.R_drewN | apply Kd.R_drew)); exact HO135.out) hb)
                 have n4_ := Aside0.mk (Kd.R_below (by (with_reducible repeat (first | apply Kd.R_alloc | apply Kd.R_drewN | apply Kd.R_drew)); exact HO138.out) hb)
                 have n5_ := Aside0.mk (Kd.R_below (by (with_reducible repeat (first | apply Kd.R_alloc | apply Kd.R_drewN | apply Kd.R_drew)); exact HO142.out) hb)
                 have n6_ := Aside0.mk (Kd.R_below (by (with_reducible repeat (first | apply Kd.R_alloc | apply Kd.R_drewN | apply Kd.R_drew)); exact HO146.out) hb)
                 have n7_ := Aside0.mk (Kd.R_below (by (with_reducible repeat (first | apply Kd.R_alloc | apply Kd.R_drewN | apply Kd.R_drew)); exact HO149.out) hb)
                 have n8_ := Aside0.mk (below_step (by repeat (first | (with_reducible first | exact HB.out | apply below_alloc | apply pw_below_drewN | apply below_drew1) | exact HB.out)) hb)
                 clear HO118
                 clear HO127
                 clear HO131
                 clear HO135
                 clear HO138
                 clear HO142
                 clear HO146
                 clear HO149
                 clear HB
                 have HO118 := n0_
                 have HO127 := n1_
                 have HO131 := n2_
                 have HO135 := n3_
                 have HO138 := n4_
                 have HO142 := n5_
                 have HO146 := n6_
                 have HO149 := n7_
                 have HB := n8_
                 clear n0_ n1_ n2_ n3_ n4_ n5_ n6_ n7_ n8_
                 (try clear hb)
                 (try clear hb2)
                 (try clear hk)
                 (try clear hi)
                 refine hK.out _ _ ⟨HS0_, HS1_, HS2_, HS3_, HS4_, HS5_, HS6_, HS7_, HS8_, HS9_, HS10_, HS11_, HS12_, HS13_, HS14_, HS15_, HS16_, HS17_, HS18_, HS19_⟩ (fun hHeld => ?_)
                 clear hK K
                 refine norm_ (a' := ?_) ?_ ?_
                 rotate_left
                 ·show Act.put _ (some 62) _ = _
                  simp only [Act.put, List.setIfInBounds_toArray, List.set_cons_zero, List.set_cons_succ, i64_w, i32_w]
                  rfl
                 refine one_ (i := 12) (N := some 63) #[true, true, true, true, true, true, true, true, true, true, true, true, true, false, false, false, false, false, false, false, false, false, false, false, false, false, false, false, false, false, false, false, false, false, false, false, false, false, false, false, false, false, false, false, false, false, false, false, false, false, false, false, false, false, false, false, false, false, false, false, false, false, false] rfl rfl (one_of HT_.out (by kernel_rfl)) (by decide) (fun K hK => ?_)
                 refine goes_ Tryz.func17 (by kernel_rfl) rfl #[.string (⟨#[107]⟩ : ByteArray), .string (⟨#[97]⟩ : ByteArray)] (by rfl) rfl rfl (by (try simp only [List.map_toArray, List.map_cons, List.map_nil]); first | done | rfl | (simp only [List.length_drop, List.length_take]; rfl)) ?_
                 with_reducible refine (tag_Salt.calls (⟨#[107]⟩ : ByteArray) (⟨#[97]⟩ : ByteArray) t155 _ ?side1 A13.out).mono ?_
                 (case side1 => first | exact HG.out | exact GTab.below (w := w) HG.out (by repeat (first | (with_reducible first | exact HB.out | apply below_alloc | apply pw_below_drewN | apply below_drew1) | exact HB.out)))
                 rintro e w49 ⟨rfl, hb⟩
                 have HS0_ := (hb.cell (World.block_lt_of_cell? _ _ (hHeld.1))).trans (hHeld.1)
                 have HS1_ := (hb.cell (World.block_lt_of_cell? _ _ (hHeld.2.1))).trans (hHeld.2.1)
                 have HS2_ := (hb.cell (World.block_lt_of_cell? _ _ (hHeld.2.2.1))).trans (hHeld.2.2.1)
                 have HS3_ := (hb.cell (World.block_lt_of_cell? _ _ (hHeld.2.2.2.1))).trans (hHeld.2.2.2.1)
                 have HS4_ := (hb.cell (World.block_lt_of_cell? _ _ (hHeld.2.2.2.2.1))).trans (hHeld.2.2.2.2.1)
                 have HS5_ := (hb.cell (World.block_lt_of_cell? _ _ (hHeld.2.2.2.2.2.1))).trans (hHeld.2.2.2.2.2.1)
                 have HS6_ := (hb.cell (World.block_lt_of_cell? _ _ (hHeld.2.2.2.2.2.2.1))).trans (hHeld.2.2.2.2.2.2.1)
                 have HS7_ := (hb.cell (World.block_lt_of_cell? _ _ (hHeld.2.2.2.2.2.2.2.1))).trans (hHeld.2.2.2.2.2.2.2.1)
                 have HS8_ := (hb.cell (World.block_lt_of_cell? _ _ (hHeld.2.2.2.2.2.2.2.2.1))).trans (hHeld.2.2.2.2.2.2.2.2.1)
                 have HS9_ := (hb.cell (World.block_lt_of_cell? _ _ (hHeld.2.2.2.2.2.2.2.2.2.1))).trans (hHeld.2.2.2.2.2.2.2.2.2.1)
                 have HS10_ := (hb.cell (World.block_lt_of_cell? _ _ (hHeld.2.2.2.2.2.2.2.2.2.2.1))).trans (hHeld.2.2.2.2.2.2.2.2.2.2.1)
                 have HS11_ := (hb.cell (World.block_lt_of_cell? _ _ (hHeld.2.2.2.2.2.2.2.2.2.2.2.1))).trans (hHeld.2.2.2.2.2.2.2.2.2.2.2.1)
                 have HS12_ := (hb.cell (World.block_lt_of_cell? _ _ (hHeld.2.2.2.2.2.2.2.2.2.2.2.2.1))).trans (hHeld.2.2.2.2.2.2.2.2.2.2.2.2.1)
                 have HS13_ := (hb.cell (World.block_lt_of_cell? _ _ (hHeld.2.2.2.2.2.2.2.2.2.2.2.2.2.1))).trans (hHeld.2.2.2.2.2.2.2.2.2.2.2.2.2.1)
                 have HS14_ := (hb.cell (World.block_lt_of_cell? _ _ (hHeld.2.2.2.2.2.2.2.2.2.2.2.2.2.2.1))).trans (hHeld.2.2.2.2.2.2.2.2.2.2.2.2.2.2.1)
                 have HS15_ := (hb.cell (World.block_lt_of_cell? _ _ (hHeld.2.2.2.2.2.2.2.2.2.2.2.2.2.2.2.1))).trans (hHeld.2.2.2.2.2.2.2.2.2.2.2.2.2.2.2.1)
                 have HS16_ := (hb.cell (World.block_lt_of_cell? _ _ (hHeld.2.2.2.2.2.2.2.2.2.2.2.2.2.2.2.2.1))).trans (hHeld.2.2.2.2.2.2.2.2.2.2.2.2.2.2.2.2.1)
                 have HS17_ := (hb.cell (World.block_lt_of_cell? _ _ (hHeld.2.2.2.2.2.2.2.2.2.2.2.2.2.2.2.2.2.1))).trans (hHeld.2.2.2.2.2.2.2.2.2.2.2.2.2.2.2.2.2.1)
                 have HS18_ := (hb.cell (World.block_lt_of_cell? _ _ (hHeld.2.2.2.2.2.2.2.2.2.2.2.2.2.2.2.2.2.2.1))).trans (hHeld.2.2.2.2.2.2.2.2.2.2.2.2.2.2.2.2.2.2.1)
                 have HS19_ := (hb.cell (World.block_lt_of_cell? _ _ (hHeld.2.2.2.2.2.2.2.2.2.2.2.2.2.2.2.2.2.2.2))).trans (hHeld.2.2.2.2.2.2.2.2.2.2.2.2.2.2.2.2.2.2.2)
                 refine ⟨_, rfl, ?_⟩
                 have n0_ := Aside0.mk (Kd.R_below (by (with_reducible repeat (first | apply Kd.R_alloc | apply Kd.R_drewN | apply Kd.R_drew)); exact HO118.out) hb)
                 have n1_ := Aside0.mk (Kd.R_below (by (with_reducible repeat (first | apply Kd.R_alloc | apply Kd.R_drewN | apply Kd.R_drew)); exact HO127.out) hb)
                 have n2_ := Aside0.mk (Kd.R_below (by (with_reducible repeat (first | apply Kd.R_alloc | apply Kd.R_drewN | apply Kd.R_drew)); exact HO131.out) hb)
                 have n3_ := Aside0.mk (Kd.R_below (by (with_reducible repeat (first | apply Kd.R_alloc | apply Kd.R_drewN | apply Kd.R_drew)); exact HO135.out) hb)
                 have n4_ := Aside0.mk (Kd.R_below (by (with_reducible repeat (first | apply Kd.R_alloc | apply Kd.R_drewN | apply Kd.R_drew)); exact HO138.out) hb)
                 have n5_ := Aside0.mk (Kd.R_below (by (with_reducible repeat (first | apply Kd.R_alloc | apply Kd.R_drewN | apply Kd.R_drew)); exact HO142.out) hb)
                 have n6_ := Aside0.mk (Kd.R_below (by (with_reducible repeat (first | apply Kd.R_alloc | apply Kd.R_drewN | apply Kd.R_drew)); exact HO146.out) hb)
                 have n7_ := Aside0.mk (Kd.R_below (by (with_reducible repeat (first | apply Kd.R_alloc | apply Kd.R_drewN | apply Kd.R_drew)); exact HO149.out) hb)
                 have n8_ := Aside0.mk (below_step (by repeat (first | (with_reducible first | exact HB.out | apply below_alloc | apply pw_below_drewN | apply below_drew1) | exact HB.out)) hb)
                 clear HO118
                 clear HO127
                 clear HO131
                 clear HO135
                 clear HO138
                 clear HO142
                 clear HO146
                 clear HO149
                 clear HB
                 have HO118 := n0_
                 have HO127 := n1_
                 have HO131 := n2_
                 have HO135 := n3_
                 have HO138 := n4_
                 have HO142 := n5_
                 have HO146 := n6_
                 have HO149 := n7_
                 have HB := n8_
                 clear n0_ n1_ n2_ n3_ n4_ n5_ n6_ n7_ n8_
                 (try clear hb)
                 (try clear hb2)
                 (try clear hk)
                 (try clear hi)
                 obtain ⟨Ao50, co50, eo50⟩ := Kd.R_slice HO142.out
                 (first | subst eo50 | (injection eo50 with f1_ f2_ f3_; have f4_ := f1_.symm; have f5_ := f3_.symm; clear f1_ f2_ f3_; subst f4_; subst f5_))
                 refine hK.out _ _ ⟨HS0_, HS1_, HS2_, HS3_, HS4_, HS5_, HS6_, HS7_, HS8_, HS9_, HS10_, HS11_, HS12_, HS13_, HS14_, HS15_, HS16_, HS17_, HS18_, HS19_⟩ (fun hHeld => ?_)
                 clear hK K
                 refine norm_ (a' := ?_) ?_ ?_
                 rotate_left
                 ·show Act.put _ (some 63) _ = _
                  simp only [Act.put, List.setIfInBounds_toArray, List.set_cons_zero, List.set_cons_succ, i64_w, i32_w]
                  rfl
                 refine p_ 13 (some 64) HT_ ?_
                 refine p_ 14 (some 65) HT_ ?_
                 refine p_ 15 (some 66) HT_ ?_
                 refine p_ 16 (some 67) HT_ ?_
                 refine p_ 17 (some 68) HT_ ?_
                 refine p_ 18 (some 69) HT_ ?_
                 refine p_ 19 (some 70) HT_ ?_
                 refine p_ 20 (some 71) HT_ ?_
                 refine p_ 21 (some 72) HT_ ?_
                 refine p_ 22 (some 73) HT_ ?_
                 refine p_ 23 (some 74) HT_ ?_
                 refine p_ 24 (some 75) HT_ ?_
                 refine p_ 25 (some 76) HT_ ?_
                 refine p_ 26 (some 77) HT_ ?_
                 refine p_ 27 (some 78) HT_ ?_
                 refine p_ 28 (some 79) HT_ ?_
                 refine p_ 29 (some 80) HT_ ?_
                 refine p_ 30 (some 81) HT_ ?_
                 refine p_ 31 (some 82) HT_ ?_
                 refine t_ 32 (some 83) HT_ HW_ hHeld ?_
                 refine one_ (i := 33) (N := some 84) #[true, true, true, true, true, true, true, true, true, true, true, true, true, true, true, true, true, true, true, true, true, true, true, true, true, true, true, true, true, true, true, true, true, true, false, false, false, false, false, false, false, false, false, false, false, false, false, false, false, false, false, false, false, false, false, false, false, false, false, false, false, false, false] rfl rfl (one_of HT_.out (by kernel_rfl)) (by decide) (fun K hK => ?_)
                 refine goes_ Tryz.func43 (by kernel_rfl) rfl #[.int .u64 5] (by rfl) rfl rfl (by (try simp only [List.map_toArray, List.map_cons, List.map_nil]); first | done | rfl | (simp only [List.length_drop, List.length_take]; rfl)) ?_
                 with_reducible refine (u128_Of.calls 5 t157 t158 _ A19.out).mono ?_
                 rintro e w51 ⟨rfl, hb⟩
                 have HS0_ := (hb.cell (World.block_lt_of_cell? _ _ (hHeld.1))).trans (hHeld.1)
                 have HS1_ := (hb.cell (World.block_lt_of_cell? _ _ (hHeld.2.1))).trans (hHeld.2.1)
                 have HS2_ := (hb.cell (World.block_lt_of_cell? _ _ (hHeld.2.2.1))).trans (hHeld.2.2.1)
                 have HS3_ := (hb.cell (World.block_lt_of_cell? _ _ (hHeld.2.2.2.1))).trans (hHeld.2.2.2.1)
                 have HS4_ := (hb.cell (World.block_lt_of_cell? _ _ (hHeld.2.2.2.2.1))).trans (hHeld.2.2.2.2.1)
                 have HS5_ := (hb.cell (World.block_lt_of_cell? _ _ (hHeld.2.2.2.2.2.1))).trans (hHeld.2.2.2.2.2.1)
                 have HS6_ := (hb.cell (World.block_lt_of_cell? _ _ (hHeld.2.2.2.2.2.2.1))).trans (hHeld.2.2.2.2.2.2.1)
                 have HS7_ := (hb.cell (World.block_lt_of_cell? _ _ (hHeld.2.2.2.2.2.2.2.1))).trans (hHeld.2.2.2.2.2.2.2.1)
                 have HS8_ := (hb.cell (World.block_lt_of_cell? _ _ (hHeld.2.2.2.2.2.2.2.2.1))).trans (hHeld.2.2.2.2.2.2.2.2.1)
                 have HS9_ := (hb.cell (World.block_lt_of_cell? _ _ (hHeld.2.2.2.2.2.2.2.2.2.1))).trans (hHeld.2.2.2.2.2.2.2.2.2.1)
                 have HS10_ := (hb.cell (World.block_lt_of_cell? _ _ (hHeld.2.2.2.2.2.2.2.2.2.2.1))).trans (hHeld.2.2.2.2.2.2.2.2.2.2.1)
                 have HS11_ := (hb.cell (World.block_lt_of_cell? _ _ (hHeld.2.2.2.2.2.2.2.2.2.2.2.1))).trans (hHeld.2.2.2.2.2.2.2.2.2.2.2.1)
                 have HS12_ := (hb.cell (World.block_lt_of_cell? _ _ (hHeld.2.2.2.2.2.2.2.2.2.2.2.2.1))).trans (hHeld.2.2.2.2.2.2.2.2.2.2.2.2.1)
                 have HS13_ := (hb.cell (World.block_lt_of_cell? _ _ (hHeld.2.2.2.2.2.2.2.2.2.2.2.2.2.1))).trans (hHeld.2.2.2.2.2.2.2.2.2.2.2.2.2.1)
                 have HS14_ := (hb.cell (World.block_lt_of_cell? _ _ (hHeld.2.2.2.2.2.2.2.2.2.2.2.2.2.2.1))).trans (hHeld.2.2.2.2.2.2.2.2.2.2.2.2.2.2.1)
                 have HS15_ := (hb.cell (World.block_lt_of_cell? _ _ (hHeld.2.2.2.2.2.2.2.2.2.2.2.2.2.2.2.1))).trans (hHeld.2.2.2.2.2.2.2.2.2.2.2.2.2.2.2.1)
                 have HS16_ := (hb.cell (World.block_lt_of_cell? _ _ (hHeld.2.2.2.2.2.2.2.2.2.2.2.2.2.2.2.2.1))).trans (hHeld.2.2.2.2.2.2.2.2.2.2.2.2.2.2.2.2.1)
                 have HS17_ := (hb.cell (World.block_lt_of_cell? _ _ (hHeld.2.2.2.2.2.2.2.2.2.2.2.2.2.2.2.2.2.1))).trans (hHeld.2.2.2.2.2.2.2.2.2.2.2.2.2.2.2.2.2.1)
                 have HS18_ := (hb.cell (World.block_lt_of_cell? _ _ (hHeld.2.2.2.2.2.2.2.2.2.2.2.2.2.2.2.2.2.2.1))).trans (hHeld.2.2.2.2.2.2.2.2.2.2.2.2.2.2.2.2.2.2.1)
                 have HS19_ := (hb.cell (World.block_lt_of_cell? _ _ (hHeld.2.2.2.2.2.2.2.2.2.2.2.2.2.2.2.2.2.2.2))).trans (hHeld.2.2.2.2.2.2.2.2.2.2.2.2.2.2.2.2.2.2.2)
                 refine ⟨_, rfl, ?_⟩
                 have n0_ := Aside0.mk (Kd.R_below (by (with_reducible repeat (first | apply Kd.R_alloc | apply Kd.R_drewN | apply Kd.R_drew)); exact HO118.out) hb)
                 have n1_ := Aside0.mk (Kd.R_below (by (with_reducible repeat (first | apply Kd.R_alloc | apply Kd.R_drewN | apply Kd.R_drew)); exact HO127.out) hb)
                 have n2_ := Aside0.mk (Kd.R_below (by (with_reducible repeat (first | apply Kd.R_alloc | apply Kd.R_drewN | apply Kd.R_drew)); exact HO131.out) hb)
                 have n3_ := Aside0.mk (Kd.R_below (by (with_reducible repeat (first | apply Kd.R_alloc | apply Kd.R_drewN | apply Kd.R_drew)); exact HO135.out) hb)
                 have n4_ := Aside0.mk (Kd.R_below (by (with_reducible repeat (first | apply Kd.R_alloc | apply Kd.R_drewN | apply Kd.R_drew)); exact HO138.out) hb)
                 have n5_ := Aside0.mk (Kd.R_below (by (with_reducible repeat (first | apply Kd.R_alloc | apply Kd.R_drewN | apply Kd.R_drew)); exact HO142.out) hb)
                 have n6_ := Aside0.mk (Kd.R_below (by (with_reducible repeat (first | apply Kd.R_alloc | apply Kd.R_drewN | apply Kd.R_drew)); exact HO146.out) hb)
                 have n7_ := Aside0.mk (Kd.R_below (by (with_reducible repeat (first | apply Kd.R_alloc | apply Kd.R_drewN | apply Kd.R_drew)); exact HO149.out) hb)
                 have n8_ := Aside0.mk (below_step (by repeat (first | (with_reducible first | exact HB.out | apply below_alloc | apply pw_below_drewN | apply below_drew1) | exact HB.out)) hb)
                 clear HO118
                 clear HO127
                 clear HO131
                 clear HO135
                 clear HO138
                 clear HO142
                 clear HO146
                 clear HO149
                 clear HB
                 have HO118 := n0_
                 have HO127 := n1_
                 have HO131 := n2_
                 have HO135 := n3_
                 have HO138 := n4_
                 have HO142 := n5_
                 have HO146 := n6_
                 have HO149 := n7_
                 have HB := n8_
                 clear n0_ n1_ n2_ n3_ n4_ n5_ n6_ n7_ n8_
                 (try clear hb)
                 (try clear hb2)
                 (try clear hk)
                 (try clear hi)
                 refine hK.out _ _ ⟨HS0_, HS1_, HS2_, HS3_, HS4_, HS5_, HS6_, HS7_, HS8_, HS9_, HS10_, HS11_, HS12_, HS13_, HS14_, HS15_, HS16_, HS17_, HS18_, HS19_⟩ (fun hHeld => ?_)
                 clear hK K
                 refine norm_ (a' := ?_) ?_ ?_
                 rotate_left
                 ·show Act.put _ (some 84) _ = _
                  simp only [Act.put, List.setIfInBounds_toArray, List.set_cons_zero, List.set_cons_succ, i64_w, i32_w]
                  rfl
                 refine p_ 34 (some 85) HT_ ?_
                 refine p_ 35 (some 86) HT_ ?_
                 refine p_ 36 (some 87) HT_ ?_
                 refine p_ 37 (some 88) HT_ ?_
                 refine p_ 38 (some 89) HT_ ?_
                 refine p_ 39 (some 90) HT_ ?_
                 refine p_ 40 (some 91) HT_ ?_
                 refine t_ 41 (some 92) HT_ HW_ hHeld ?_
                 refine p_ 42 (some 93) HT_ ?_
                 refine p_ 43 (some 94) HT_ ?_
                 refine p_ 44 (some 95) HT_ ?_
                 refine p_ 45 (some 96) HT_ ?_
                 refine p_ 46 (some 97) HT_ ?_
                 refine p_ 47 (some 98) HT_ ?_
                 refine t_ 48 (some 99) HT_ HW_ hHeld ?_
                 refine p_ 49 (some 100) HT_ ?_
                 refine p_ 50 (some 101) HT_ ?_
                 refine p_ 51 (some 102) HT_ ?_
                 refine p_ 52 (some 103) HT_ ?_
                 refine p_ 53 (some 104) HT_ ?_
                 refine p_ 54 (some 105) HT_ ?_
                 refine p_ 55 (some 106) HT_ ?_
                 refine p_ 56 (some 107) HT_ ?_
                 refine p_ 57 (some 108) HT_ ?_
                 refine p_ 58 (some 109) HT_ ?_
                 refine p_ 59 (some 110) HT_ ?_
                 refine p_ 60 (some 111) HT_ ?_
                 refine p_ 61 (some 112) HT_ ?_
                 refine p_ 62 (some 0) HT_ ?_
                 refine done_ (done_of HT_.out (by kernel_rfl)) ?_
                 try go_wp2
                 go_ret
                 exact ⟨by first | rfl | (simp [errW_none, errW_some] <;> rfl) | (simp [*, errW_none, errW_some] <;> rfl), by repeat (first | (with_reducible first | exact HB.out | apply below_alloc | apply pw_below_drewN | apply below_drew1) | exact HB.out)⟩
                ·rw [if_neg c25] at H
                 rw [HRT.out] at H
                 cases H
               ·rw [if_neg c24] at H
                rw [HRT.out] at H
                cases H
              ·rw [if_neg c23] at H
               rw [HRT.out] at H
               cases H
             ·rw [if_neg c22] at H
              rw [HRT.out] at H
              cases H
            ·rw [if_neg c21] at H
             exact absurd H (by simp)
           ·rw [if_neg c20] at H
            rw [HRT.out] at H
            cases H
          ·rw [if_neg c18] at H
           exact absurd H (by simp)
         ·rw [if_neg c17] at H
          rw [HRT.out] at H
          cases H
        ·rw [if_neg c16] at H
         rw [HRT.out] at H
         cases H
       ·rw [if_neg c15] at H
        rw [HRT.out] at H
        cases H
      ·rw [if_neg c14] at H
       rw [HRT.out] at H
       cases H
     ·rw [if_neg c11] at H
      exact absurd H (by simp)
    ·rw [if_neg c10] at H
     rw [HRT.out] at H
     cases H
   ·rw [if_neg c9] at H
    rw [HRT.out] at H
    cases H
  ·rw [if_neg c3] at H
   exact absurd H (by simp)
 ·rw [if_neg c2] at H
  exact absurd H (by simp)
end Go.Proofs.YtfijhbfdkcajjaaGreatDoor.Pr
