/- Proved: WorldNil: to a world that nobody made nothing happens. Conditions: the listed tables read as they were laid. -/
import Derived.Test.YtpgkmjbfmmjjnaaGreatDoorCards
import Derived.Test.YtpgkmjbfmmjjnaaGreatDoorTie
import Derived.Test.YtpgkmjbfmmjjnaaGreatDoorNilLaw
import Derived.WalkKit
import Derived.ProofKit
import Derived.OpenShut
import Derived.ShutString
import Derived.ChangeOld
import Derived.Below
import Derived.SizedLaws
import Derived.Deep.DeepHandedRow
import Derived.Lib.LaidTab
import Derived.SevenTiedAt
import Derived.Lib.LaidIn
import Derived.Lib.LaidU8T
import Derived.Deep.DeepWitnessRowRef
namespace Go.Proofs.YtpgkmjbfmmjjnaaGreatDoor.worldNil
open Go.ChangeShapes Go.WideShapes Go.ChangeAt Go.RowKit
open Go.ChangeMaps (open_string shut_string)
set_option linter.unusedVariables false
set_option linter.unusedSimpArgs false
theorem own : ownKnob Tryz.prog.godebug = none := by kernel_rfl
set_option maxRecDepth 100000 in
theorem cells_55 {H : Type} {enc : TypeId × Value → H} {W : World} {base : Nat} {spare : Nat → Bool} {held : Bool} {fuel : Nat} {cs : List Value} {d : DataW H × List MemPlace} (hl : cs.length = 2) (h : DataW.trod enc Tryz.prog W base spare held fuel 55 cs = some d) :
    ∃ (x0 : Int) (x1 : Int), cs = [.int .u64 x0, .int .u64 x1] ∧ (Lit.int .u64 x0).wf = true ∧ (Lit.int .u64 x1).wf = true := by
  obtain ⟨ys, k, _, _, _, hyl, hf⟩ := DataW.trod_struct Tryz.underlying55 h
  have hyl2 : ys.length = 2 := hyl
  match cs, hl with
  | [v0, v1], _ =>
    have c0 : Tryz.prog.cellsOf 22 = 1 := by kernel_rfl
    have g0 : DataW.trod enc Tryz.prog W base spare held k 22 ((([v0, v1] : List Value).drop 0).take (Tryz.prog.cellsOf 22)) = ys[0]? := hf 0 _ rfl
    rw [c0, List.getElem?_eq_getElem (by omega)] at g0
    have c1 : Tryz.prog.cellsOf 22 = 1 := by kernel_rfl
    have g1 : DataW.trod enc Tryz.prog W base spare held k 22 ((([v0, v1] : List Value).drop 1).take (Tryz.prog.cellsOf 22)) = ys[1]? := hf 1 _ rfl
    rw [c1, List.getElem?_eq_getElem (by omega)] at g1
    obtain ⟨x0, e0, _, f0⟩ := DataW.trod_int Tryz.underlying22 g0
    simp only [List.drop_zero, List.drop_succ_cons, List.take_succ_cons, List.take_zero, List.cons.injEq, and_true] at e0
    subst e0
    obtain ⟨x1, e1, _, f1⟩ := DataW.trod_int Tryz.underlying22 g1
    simp only [List.drop_zero, List.drop_succ_cons, List.take_succ_cons, List.take_zero, List.cons.injEq, and_true] at e1
    subst e1
    exact ⟨x0, x1, rfl, f0, f1⟩
set_option maxRecDepth 100000 in
theorem cells_57 {H : Type} {enc : TypeId × Value → H} {W : World} {base : Nat} {spare : Nat → Bool} {held : Bool} {fuel : Nat} {cs : List Value} {d : DataW H × List MemPlace} (hl : cs.length = 4) (h : DataW.trod enc Tryz.prog W base spare held fuel 57 cs = some d) :
    ∃ (x0 : ByteArray) (x1 : Int) (x2 : Int) (x3 : Int), cs = [.string x0, .int .u64 x1, .int .u64 x2, .int .i64 x3] ∧ x0.size ≤ maxLen ∧ (Lit.int .u64 x1).wf = true ∧ (Lit.int .u64 x2).wf = true ∧ (Lit.int .i64 x3).wf = true := by
  obtain ⟨ys, k, _, _, _, hyl, hf⟩ := DataW.trod_struct Tryz.underlying57 h
  have hyl2 : ys.length = 3 := hyl
  match cs, hl with
  | [v0, v1, v2, v3], _ =>
    have c0 : Tryz.prog.cellsOf 9 = 1 := by kernel_rfl
    have g0 : DataW.trod enc Tryz.prog W base spare held k 9 ((([v0, v1, v2, v3] : List Value).drop 0).take (Tryz.prog.cellsOf 9)) = ys[0]? := hf 0 _ rfl
    rw [c0, List.getElem?_eq_getElem (by omega)] at g0
    have c1 : Tryz.prog.cellsOf 55 = 2 := by kernel_rfl
    have g1 : DataW.trod enc Tryz.prog W base spare held k 55 ((([v0, v1, v2, v3] : List Value).drop 1).take (Tryz.prog.cellsOf 55)) = ys[1]? := hf 1 _ rfl
    rw [c1, List.getElem?_eq_getElem (by omega)] at g1
    have c2 : Tryz.prog.cellsOf 3 = 1 := by kernel_rfl
    have g2 : DataW.trod enc Tryz.prog W base spare held k 3 ((([v0, v1, v2, v3] : List Value).drop 3).take (Tryz.prog.cellsOf 3)) = ys[2]? := hf 2 _ rfl
    rw [c2, List.getElem?_eq_getElem (by omega)] at g2
    obtain ⟨x0, e0, _, f0⟩ := DataW.trod_string Tryz.underlying9 g0
    simp only [List.drop_zero, List.drop_succ_cons, List.take_succ_cons, List.take_zero, List.cons.injEq, and_true] at e0
    subst e0
    obtain ⟨x1, x2, e1, f1, f2⟩ := cells_55 (by rfl) g1
    simp only [List.drop_zero, List.drop_succ_cons, List.take_succ_cons, List.take_zero, List.cons.injEq, and_true] at e1
    obtain ⟨rfl, rfl⟩ := e1
    obtain ⟨x3, e2, _, f3⟩ := DataW.trod_int Tryz.underlying3 g2
    simp only [List.drop_zero, List.drop_succ_cons, List.take_succ_cons, List.take_zero, List.cons.injEq, and_true] at e2
    subst e2
    exact ⟨x0, x1, x2, x3, rfl, f0, f1, f2, f3⟩
set_option maxRecDepth 100000 in
theorem cells_24 {H : Type} {enc : TypeId × Value → H} {W : World} {base : Nat} {spare : Nat → Bool} {held : Bool} {fuel : Nat} {cs : List Value} {d : DataW H × List MemPlace} (hl : cs.length = 4) (h : DataW.trod enc Tryz.prog W base spare held fuel 24 cs = some d) :
    ∃ (x0 : Int) (x1 : Int) (x2 : Int) (x3 : Int), cs = [.int .u8 x0, .int .i64 x1, .int .u64 x2, .int .u64 x3] ∧ (Lit.int .u8 x0).wf = true ∧ (Lit.int .i64 x1).wf = true ∧ (Lit.int .u64 x2).wf = true ∧ (Lit.int .u64 x3).wf = true := by
  obtain ⟨ys, k, _, _, _, hyl, hf⟩ := DataW.trod_struct Tryz.underlying24 h
  have hyl2 : ys.length = 4 := hyl
  match cs, hl with
  | [v0, v1, v2, v3], _ =>
    have c0 : Tryz.prog.cellsOf 5 = 1 := by kernel_rfl
    have g0 : DataW.trod enc Tryz.prog W base spare held k 5 ((([v0, v1, v2, v3] : List Value).drop 0).take (Tryz.prog.cellsOf 5)) = ys[0]? := hf 0 _ rfl
    rw [c0, List.getElem?_eq_getElem (by omega)] at g0
    have c1 : Tryz.prog.cellsOf 3 = 1 := by kernel_rfl
    have g1 : DataW.trod enc Tryz.prog W base spare held k 3 ((([v0, v1, v2, v3] : List Value).drop 1).take (Tryz.prog.cellsOf 3)) = ys[1]? := hf 1 _ rfl
    rw [c1, List.getElem?_eq_getElem (by omega)] at g1
    have c2 : Tryz.prog.cellsOf 22 = 1 := by kernel_rfl
    have g2 : DataW.trod enc Tryz.prog W base spare held k 22 ((([v0, v1, v2, v3] : List Value).drop 2).take (Tryz.prog.cellsOf 22)) = ys[2]? := hf 2 _ rfl
    rw [c2, List.getElem?_eq_getElem (by omega)] at g2
    have c3 : Tryz.prog.cellsOf 22 = 1 := by kernel_rfl
    have g3 : DataW.trod enc Tryz.prog W base spare held k 22 ((([v0, v1, v2, v3] : List Value).drop 3).take (Tryz.prog.cellsOf 22)) = ys[3]? := hf 3 _ rfl
    rw [c3, List.getElem?_eq_getElem (by omega)] at g3
    obtain ⟨x0, e0, _, f0⟩ := DataW.trod_int Tryz.underlying5 g0
    simp only [List.drop_zero, List.drop_succ_cons, List.take_succ_cons, List.take_zero, List.cons.injEq, and_true] at e0
    subst e0
    obtain ⟨x1, e1, _, f1⟩ := DataW.trod_int Tryz.underlying3 g1
    simp only [List.drop_zero, List.drop_succ_cons, List.take_succ_cons, List.take_zero, List.cons.injEq, and_true] at e1
    subst e1
    obtain ⟨x2, e2, _, f2⟩ := DataW.trod_int Tryz.underlying22 g2
    simp only [List.drop_zero, List.drop_succ_cons, List.take_succ_cons, List.take_zero, List.cons.injEq, and_true] at e2
    subst e2
    obtain ⟨x3, e3, _, f3⟩ := DataW.trod_int Tryz.underlying22 g3
    simp only [List.drop_zero, List.drop_succ_cons, List.take_succ_cons, List.take_zero, List.cons.injEq, and_true] at e3
    subst e3
    exact ⟨x0, x1, x2, x3, rfl, f0, f1, f2, f3⟩
set_option maxRecDepth 100000 in
theorem cells_59 {H : Type} {enc : TypeId × Value → H} {W : World} {base : Nat} {spare : Nat → Bool} {held : Bool} {fuel : Nat} {cs : List Value} {d : DataW H × List MemPlace} (hl : cs.length = 12) (h : DataW.trod enc Tryz.prog W base spare held fuel 59 cs = some d) :
    ∃ (x0 : Int) (x1 : Int) (x2 : ByteArray) (x3 : Int) (x4 : Int) (x5 : Int) (x6 : Int) (x7 : Int) (x8 : Int) (x9 : Int) (x10 : Int) (x11 : ByteArray), cs = [.int .u8 x0, .int .i64 x1, .string x2, .int .u64 x3, .int .u64 x4, .int .i64 x5, .int .u8 x6, .int .i64 x7, .int .u64 x8, .int .u64 x9, .int .i64 x10, .string x11] ∧ (Lit.int .u8 x0).wf = true ∧ (Lit.int .i64 x1).wf = true ∧ x2.size ≤ maxLen ∧ (Lit.int .u64 x3).wf = true ∧ (Lit.int .u64 x4).wf = true ∧ (Lit.int .i64 x5).wf = true ∧ (Lit.int .u8 x6).wf = true ∧ (Lit.int .i64 x7).wf = true ∧ (Lit.int .u64 x8).wf = true ∧ (Lit.int .u64 x9).wf = true ∧ (Lit.int .i64 x10).wf = true ∧ x11.size ≤ maxLen := by
  obtain ⟨ys, k, _, _, _, hyl, hf⟩ := DataW.trod_struct Tryz.underlying59 h
  have hyl2 : ys.length = 6 := hyl
  match cs, hl with
  | [v0, v1, v2, v3, v4, v5, v6, v7, v8, v9, v10, v11], _ =>
    have c0 : Tryz.prog.cellsOf 5 = 1 := by kernel_rfl
    have g0 : DataW.trod enc Tryz.prog W base spare held k 5 ((([v0, v1, v2, v3, v4, v5, v6, v7, v8, v9, v10, v11] : List Value).drop 0).take (Tryz.prog.cellsOf 5)) = ys[0]? := hf 0 _ rfl
    rw [c0, List.getElem?_eq_getElem (by omega)] at g0
    have c1 : Tryz.prog.cellsOf 3 = 1 := by kernel_rfl
    have g1 : DataW.trod enc Tryz.prog W base spare held k 3 ((([v0, v1, v2, v3, v4, v5, v6, v7, v8, v9, v10, v11] : List Value).drop 1).take (Tryz.prog.cellsOf 3)) = ys[1]? := hf 1 _ rfl
    rw [c1, List.getElem?_eq_getElem (by omega)] at g1
    have c2 : Tryz.prog.cellsOf 57 = 4 := by kernel_rfl
    have g2 : DataW.trod enc Tryz.prog W base spare held k 57 ((([v0, v1, v2, v3, v4, v5, v6, v7, v8, v9, v10, v11] : List Value).drop 2).take (Tryz.prog.cellsOf 57)) = ys[2]? := hf 2 _ rfl
    rw [c2, List.getElem?_eq_getElem (by omega)] at g2
    have c3 : Tryz.prog.cellsOf 24 = 4 := by kernel_rfl
    have g3 : DataW.trod enc Tryz.prog W base spare held k 24 ((([v0, v1, v2, v3, v4, v5, v6, v7, v8, v9, v10, v11] : List Value).drop 6).take (Tryz.prog.cellsOf 24)) = ys[3]? := hf 3 _ rfl
    rw [c3, List.getElem?_eq_getElem (by omega)] at g3
    have c4 : Tryz.prog.cellsOf 3 = 1 := by kernel_rfl
    have g4 : DataW.trod enc Tryz.prog W base spare held k 3 ((([v0, v1, v2, v3, v4, v5, v6, v7, v8, v9, v10, v11] : List Value).drop 10).take (Tryz.prog.cellsOf 3)) = ys[4]? := hf 4 _ rfl
    rw [c4, List.getElem?_eq_getElem (by omega)] at g4
    have c5 : Tryz.prog.cellsOf 9 = 1 := by kernel_rfl
    have g5 : DataW.trod enc Tryz.prog W base spare held k 9 ((([v0, v1, v2, v3, v4, v5, v6, v7, v8, v9, v10, v11] : List Value).drop 11).take (Tryz.prog.cellsOf 9)) = ys[5]? := hf 5 _ rfl
    rw [c5, List.getElem?_eq_getElem (by omega)] at g5
    obtain ⟨x0, e0, _, f0⟩ := DataW.trod_int Tryz.underlying5 g0
    simp only [List.drop_zero, List.drop_succ_cons, List.take_succ_cons, List.take_zero, List.cons.injEq, and_true] at e0
    subst e0
    obtain ⟨x1, e1, _, f1⟩ := DataW.trod_int Tryz.underlying3 g1
    simp only [List.drop_zero, List.drop_succ_cons, List.take_succ_cons, List.take_zero, List.cons.injEq, and_true] at e1
    subst e1
    obtain ⟨x2, x3, x4, x5, e2, f2, f3, f4, f5⟩ := cells_57 (by rfl) g2
    simp only [List.drop_zero, List.drop_succ_cons, List.take_succ_cons, List.take_zero, List.cons.injEq, and_true] at e2
    obtain ⟨rfl, rfl, rfl, rfl⟩ := e2
    obtain ⟨x6, x7, x8, x9, e3, f6, f7, f8, f9⟩ := cells_24 (by rfl) g3
    simp only [List.drop_zero, List.drop_succ_cons, List.take_succ_cons, List.take_zero, List.cons.injEq, and_true] at e3
    obtain ⟨rfl, rfl, rfl, rfl⟩ := e3
    obtain ⟨x10, e4, _, f10⟩ := DataW.trod_int Tryz.underlying3 g4
    simp only [List.drop_zero, List.drop_succ_cons, List.take_succ_cons, List.take_zero, List.cons.injEq, and_true] at e4
    subst e4
    obtain ⟨x11, e5, _, f11⟩ := DataW.trod_string Tryz.underlying9 g5
    simp only [List.drop_zero, List.drop_succ_cons, List.take_succ_cons, List.take_zero, List.cons.injEq, and_true] at e5
    subst e5
    exact ⟨x0, x1, x2, x3, x4, x5, x6, x7, x8, x9, x10, x11, rfl, f0, f1, f2, f3, f4, f5, f6, f7, f8, f9, f10, f11⟩
set_option maxRecDepth 100000 in
theorem cells_61 {H : Type} {enc : TypeId × Value → H} {W : World} {base : Nat} {spare : Nat → Bool} {held : Bool} {fuel : Nat} {cs : List Value} {d : DataW H × List MemPlace} (hl : cs.length = 21) (h : DataW.trod enc Tryz.prog W base spare held fuel 61 cs = some d) :
    ∃ (x0 : Int) (x1 : Int) (x2 : Int) (x3 : Int) (x4 : Int) (x5 : ByteArray) (x6 : ByteArray) (x7 : Int) (x8 : Int) (x9 : Int) (x10 : Int) (x11 : ByteArray) (x12 : Int) (x13 : Int) (x14 : Int) (x15 : Int) (x16 : Int) (x17 : Int) (x18 : Int) (x19 : Int) (x20 : ByteArray), cs = [.int .u8 x0, .int .i64 x1, .int .i64 x2, .int .i64 x3, .int .i64 x4, .string x5, .string x6, .int .u64 x7, .int .u64 x8, .int .u8 x9, .int .i64 x10, .string x11, .int .u64 x12, .int .u64 x13, .int .i64 x14, .int .u8 x15, .int .i64 x16, .int .u64 x17, .int .u64 x18, .int .i64 x19, .string x20] ∧ (Lit.int .u8 x0).wf = true ∧ (Lit.int .i64 x1).wf = true ∧ (Lit.int .i64 x2).wf = true ∧ (Lit.int .i64 x3).wf = true ∧ (Lit.int .i64 x4).wf = true ∧ x5.size ≤ maxLen ∧ x6.size ≤ maxLen ∧ (Lit.int .u64 x7).wf = true ∧ (Lit.int .u64 x8).wf = true ∧ (Lit.int .u8 x9).wf = true ∧ (Lit.int .i64 x10).wf = true ∧ x11.size ≤ maxLen ∧ (Lit.int .u64 x12).wf = true ∧ (Lit.int .u64 x13).wf = true ∧ (Lit.int .i64 x14).wf = true ∧ (Lit.int .u8 x15).wf = true ∧ (Lit.int .i64 x16).wf = true ∧ (Lit.int .u64 x17).wf = true ∧ (Lit.int .u64 x18).wf = true ∧ (Lit.int .i64 x19).wf = true ∧ x20.size ≤ maxLen := by
  obtain ⟨ys, k, _, _, _, hyl, hf⟩ := DataW.trod_struct Tryz.underlying61 h
  have hyl2 : ys.length = 10 := hyl
  match cs, hl with
  | [v0, v1, v2, v3, v4, v5, v6, v7, v8, v9, v10, v11, v12, v13, v14, v15, v16, v17, v18, v19, v20], _ =>
    have c0 : Tryz.prog.cellsOf 5 = 1 := by kernel_rfl
    have g0 : DataW.trod enc Tryz.prog W base spare held k 5 ((([v0, v1, v2, v3, v4, v5, v6, v7, v8, v9, v10, v11, v12, v13, v14, v15, v16, v17, v18, v19, v20] : List Value).drop 0).take (Tryz.prog.cellsOf 5)) = ys[0]? := hf 0 _ rfl
    rw [c0, List.getElem?_eq_getElem (by omega)] at g0
    have c1 : Tryz.prog.cellsOf 3 = 1 := by kernel_rfl
    have g1 : DataW.trod enc Tryz.prog W base spare held k 3 ((([v0, v1, v2, v3, v4, v5, v6, v7, v8, v9, v10, v11, v12, v13, v14, v15, v16, v17, v18, v19, v20] : List Value).drop 1).take (Tryz.prog.cellsOf 3)) = ys[1]? := hf 1 _ rfl
    rw [c1, List.getElem?_eq_getElem (by omega)] at g1
    have c2 : Tryz.prog.cellsOf 3 = 1 := by kernel_rfl
    have g2 : DataW.trod enc Tryz.prog W base spare held k 3 ((([v0, v1, v2, v3, v4, v5, v6, v7, v8, v9, v10, v11, v12, v13, v14, v15, v16, v17, v18, v19, v20] : List Value).drop 2).take (Tryz.prog.cellsOf 3)) = ys[2]? := hf 2 _ rfl
    rw [c2, List.getElem?_eq_getElem (by omega)] at g2
    have c3 : Tryz.prog.cellsOf 3 = 1 := by kernel_rfl
    have g3 : DataW.trod enc Tryz.prog W base spare held k 3 ((([v0, v1, v2, v3, v4, v5, v6, v7, v8, v9, v10, v11, v12, v13, v14, v15, v16, v17, v18, v19, v20] : List Value).drop 3).take (Tryz.prog.cellsOf 3)) = ys[3]? := hf 3 _ rfl
    rw [c3, List.getElem?_eq_getElem (by omega)] at g3
    have c4 : Tryz.prog.cellsOf 3 = 1 := by kernel_rfl
    have g4 : DataW.trod enc Tryz.prog W base spare held k 3 ((([v0, v1, v2, v3, v4, v5, v6, v7, v8, v9, v10, v11, v12, v13, v14, v15, v16, v17, v18, v19, v20] : List Value).drop 4).take (Tryz.prog.cellsOf 3)) = ys[4]? := hf 4 _ rfl
    rw [c4, List.getElem?_eq_getElem (by omega)] at g4
    have c5 : Tryz.prog.cellsOf 9 = 1 := by kernel_rfl
    have g5 : DataW.trod enc Tryz.prog W base spare held k 9 ((([v0, v1, v2, v3, v4, v5, v6, v7, v8, v9, v10, v11, v12, v13, v14, v15, v16, v17, v18, v19, v20] : List Value).drop 5).take (Tryz.prog.cellsOf 9)) = ys[5]? := hf 5 _ rfl
    rw [c5, List.getElem?_eq_getElem (by omega)] at g5
    have c6 : Tryz.prog.cellsOf 9 = 1 := by kernel_rfl
    have g6 : DataW.trod enc Tryz.prog W base spare held k 9 ((([v0, v1, v2, v3, v4, v5, v6, v7, v8, v9, v10, v11, v12, v13, v14, v15, v16, v17, v18, v19, v20] : List Value).drop 6).take (Tryz.prog.cellsOf 9)) = ys[6]? := hf 6 _ rfl
    rw [c6, List.getElem?_eq_getElem (by omega)] at g6
    have c7 : Tryz.prog.cellsOf 22 = 1 := by kernel_rfl
    have g7 : DataW.trod enc Tryz.prog W base spare held k 22 ((([v0, v1, v2, v3, v4, v5, v6, v7, v8, v9, v10, v11, v12, v13, v14, v15, v16, v17, v18, v19, v20] : List Value).drop 7).take (Tryz.prog.cellsOf 22)) = ys[7]? := hf 7 _ rfl
    rw [c7, List.getElem?_eq_getElem (by omega)] at g7
    have c8 : Tryz.prog.cellsOf 22 = 1 := by kernel_rfl
    have g8 : DataW.trod enc Tryz.prog W base spare held k 22 ((([v0, v1, v2, v3, v4, v5, v6, v7, v8, v9, v10, v11, v12, v13, v14, v15, v16, v17, v18, v19, v20] : List Value).drop 8).take (Tryz.prog.cellsOf 22)) = ys[8]? := hf 8 _ rfl
    rw [c8, List.getElem?_eq_getElem (by omega)] at g8
    have c9 : Tryz.prog.cellsOf 59 = 12 := by kernel_rfl
    have g9 : DataW.trod enc Tryz.prog W base spare held k 59 ((([v0, v1, v2, v3, v4, v5, v6, v7, v8, v9, v10, v11, v12, v13, v14, v15, v16, v17, v18, v19, v20] : List Value).drop 9).take (Tryz.prog.cellsOf 59)) = ys[9]? := hf 9 _ rfl
    rw [c9, List.getElem?_eq_getElem (by omega)] at g9
    obtain ⟨x0, e0, _, f0⟩ := DataW.trod_int Tryz.underlying5 g0
    simp only [List.drop_zero, List.drop_succ_cons, List.take_succ_cons, List.take_zero, List.cons.injEq, and_true] at e0
    subst e0
    obtain ⟨x1, e1, _, f1⟩ := DataW.trod_int Tryz.underlying3 g1
    simp only [List.drop_zero, List.drop_succ_cons, List.take_succ_cons, List.take_zero, List.cons.injEq, and_true] at e1
    subst e1
    obtain ⟨x2, e2, _, f2⟩ := DataW.trod_int Tryz.underlying3 g2
    simp only [List.drop_zero, List.drop_succ_cons, List.take_succ_cons, List.take_zero, List.cons.injEq, and_true] at e2
    subst e2
    obtain ⟨x3, e3, _, f3⟩ := DataW.trod_int Tryz.underlying3 g3
    simp only [List.drop_zero, List.drop_succ_cons, List.take_succ_cons, List.take_zero, List.cons.injEq, and_true] at e3
    subst e3
    obtain ⟨x4, e4, _, f4⟩ := DataW.trod_int Tryz.underlying3 g4
    simp only [List.drop_zero, List.drop_succ_cons, List.take_succ_cons, List.take_zero, List.cons.injEq, and_true] at e4
    subst e4
    obtain ⟨x5, e5, _, f5⟩ := DataW.trod_string Tryz.underlying9 g5
    simp only [List.drop_zero, List.drop_succ_cons, List.take_succ_cons, List.take_zero, List.cons.injEq, and_true] at e5
    subst e5
    obtain ⟨x6, e6, _, f6⟩ := DataW.trod_string Tryz.underlying9 g6
    simp only [List.drop_zero, List.drop_succ_cons, List.take_succ_cons, List.take_zero, List.cons.injEq, and_true] at e6
    subst e6
    obtain ⟨x7, e7, _, f7⟩ := DataW.trod_int Tryz.underlying22 g7
    simp only [List.drop_zero, List.drop_succ_cons, List.take_succ_cons, List.take_zero, List.cons.injEq, and_true] at e7
    subst e7
    obtain ⟨x8, e8, _, f8⟩ := DataW.trod_int Tryz.underlying22 g8
    simp only [List.drop_zero, List.drop_succ_cons, List.take_succ_cons, List.take_zero, List.cons.injEq, and_true] at e8
    subst e8
    obtain ⟨x9, x10, x11, x12, x13, x14, x15, x16, x17, x18, x19, x20, e9, f9, f10, f11, f12, f13, f14, f15, f16, f17, f18, f19, f20⟩ := cells_59 (by rfl) g9
    simp only [List.drop_zero, List.drop_succ_cons, List.take_succ_cons, List.take_zero, List.cons.injEq, and_true] at e9
    obtain ⟨rfl, rfl, rfl, rfl, rfl, rfl, rfl, rfl, rfl, rfl, rfl, rfl⟩ := e9
    exact ⟨x0, x1, x2, x3, x4, x5, x6, x7, x8, x9, x10, x11, x12, x13, x14, x15, x16, x17, x18, x19, x20, rfl, f0, f1, f2, f3, f4, f5, f6, f7, f8, f9, f10, f11, f12, f13, f14, f15, f16, f17, f18, f19, f20⟩
theorem laidOut : laidOutB Tryz.prog = true := by kernel_rfl
noncomputable def laidWorld (os : Os) : World :=
  let w0 := World.holding Tryz.prog os ⟨#[], #[], []⟩
  let put (h : Array Obj) (g : Nat) (cs : Array Value) : Array Obj := h.modify g fun
    | .cells _ t frozen => .cells cs t frozen
    | o => o
  let h0 := w0.heap
  let h1 := put h0 4 #[.int .u8 0, .int .u8 1, .int .u8 56, .int .u8 2, .int .u8 57, .int .u8 49, .int .u8 28, .int .u8 3, .int .u8 61, .int .u8 58, .int .u8 42, .int .u8 50, .int .u8 38, .int .u8 29, .int .u8 17, .int .u8 4, .int .u8 62, .int .u8 47, .int .u8 59, .int .u8 36, .int .u8 45, .int .u8 43, .int .u8 51, .int .u8 22, .int .u8 53, .int .u8 39, .int .u8 33, .int .u8 30, .int .u8 24, .int .u8 18, .int .u8 12, .int .u8 5, .int .u8 63, .int .u8 55, .int .u8 48, .int .u8 27, .int .u8 60, .int .u8 41, .int .u8 37, .int .u8 16, .int .u8 46, .int .u8 35, .int .u8 44, .int .u8 21, .int .u8 52, .int .u8 32, .int .u8 23, .int .u8 11, .int .u8 54, .int .u8 26, .int .u8 40, .int .u8 15, .int .u8 34, .int .u8 20, .int .u8 31, .int .u8 10, .int .u8 25, .int .u8 14, .int .u8 19, .int .u8 9, .int .u8 13, .int .u8 8, .int .u8 7, .int .u8 6]
  let h2 := put h1 5 #[.int .u32 1116352408, .int .u32 1899447441, .int .u32 3049323471, .int .u32 3921009573, .int .u32 961987163, .int .u32 1508970993, .int .u32 2453635748, .int .u32 2870763221, .int .u32 3624381080, .int .u32 310598401, .int .u32 607225278, .int .u32 1426881987, .int .u32 1925078388, .int .u32 2162078206, .int .u32 2614888103, .int .u32 3248222580, .int .u32 3835390401, .int .u32 4022224774, .int .u32 264347078, .int .u32 604807628, .int .u32 770255983, .int .u32 1249150122, .int .u32 1555081692, .int .u32 1996064986, .int .u32 2554220882, .int .u32 2821834349, .int .u32 2952996808, .int .u32 3210313671, .int .u32 3336571891, .int .u32 3584528711, .int .u32 113926993, .int .u32 338241895, .int .u32 666307205, .int .u32 773529912, .int .u32 1294757372, .int .u32 1396182291, .int .u32 1695183700, .int .u32 1986661051, .int .u32 2177026350, .int .u32 2456956037, .int .u32 2730485921, .int .u32 2820302411, .int .u32 3259730800, .int .u32 3345764771, .int .u32 3516065817, .int .u32 3600352804, .int .u32 4094571909, .int .u32 275423344, .int .u32 430227734, .int .u32 506948616, .int .u32 659060556, .int .u32 883997877, .int .u32 958139571, .int .u32 1322822218, .int .u32 1537002063, .int .u32 1747873779, .int .u32 1955562222, .int .u32 2024104815, .int .u32 2227730452, .int .u32 2361852424, .int .u32 2428436474, .int .u32 2756734187, .int .u32 3204031479, .int .u32 3329325298]
  let h3 := put h2 3 #[.int .u8 128, .int .u8 191, .int .u8 160, .int .u8 191, .int .u8 128, .int .u8 159, .int .u8 144, .int .u8 191, .int .u8 128, .int .u8 143, .int .u8 0, .int .u8 0, .int .u8 0, .int .u8 0, .int .u8 0, .int .u8 0, .int .u8 0, .int .u8 0, .int .u8 0, .int .u8 0, .int .u8 0, .int .u8 0, .int .u8 0, .int .u8 0, .int .u8 0, .int .u8 0, .int .u8 0, .int .u8 0, .int .u8 0, .int .u8 0, .int .u8 0, .int .u8 0]
  let h4 := put h3 1 #[.int .u8 0, .int .u8 1, .int .u8 2, .int .u8 4, .int .u8 0]
  let h5 := put h4 2 (Lib.firstTab.map fun z => Value.int .u8 z).toArray
  { w0 with heap := h5 }
theorem laid_met (os : Os) : laidMet Tryz.prog Rows.worldNilRow.laid ((laidWorld os).forCall (fun _ _ => 0) ⟨#[], #[.agg #[.int .u8 0, .int .i64 0, .int .i64 0, .int .i64 0, .int .i64 0, .string ByteArray.empty, .string ByteArray.empty, .int .u64 0, .int .u64 0, .int .u8 0, .int .i64 0, .string ByteArray.empty, .int .u64 0, .int .u64 0, .int .i64 0, .int .u8 0, .int .i64 0, .int .u64 0, .int .u64 0, .int .i64 0, .string ByteArray.empty]], []⟩).memory :=
  (LaidIn.of_run (l := [("math/bits.deBruijn64tab", Rows.laid_math_bits_deBruijn64tab), ("paymaster/block.constants", Rows.laid_paymaster_block_constants), ("unicode/utf8.acceptRanges", Rows.laid_unicode_utf8_acceptRanges), ("paymaster/post.haves", Rows.laid_paymaster_post_haves), ("unicode/utf8.first", Rows.laid_unicode_utf8_first)]) [1, 2, 3, 4, 5] 8 (by kernel_rfl) (by kernel_rfl) (by kernel_rfl) (by kernel_rfl)).met
theorem reads (os : Os) {H : Type} (enc : TypeId × Value → H) : ∃ places, DataW.whole enc Tryz.prog ((laidWorld os).forCall (fun _ _ => 0) ⟨#[], #[.agg #[.int .u8 0, .int .i64 0, .int .i64 0, .int .i64 0, .int .i64 0, .string ByteArray.empty, .string ByteArray.empty, .int .u64 0, .int .u64 0, .int .u8 0, .int .i64 0, .string ByteArray.empty, .int .u64 0, .int .u64 0, .int .i64 0, .int .u8 0, .int .i64 0, .int .u64 0, .int .u64 0, .int .i64 0, .string ByteArray.empty]], []⟩).memory Tryz.f4.params.toList Rows.worldNilSpec.vars false #[Value.agg #[.int .u8 0, .int .i64 0, .int .i64 0, .int .i64 0, .int .i64 0, .string ByteArray.empty, .string ByteArray.empty, .int .u64 0, .int .u64 0, .int .u8 0, .int .i64 0, .string ByteArray.empty, .int .u64 0, .int .u64 0, .int .i64 0, .int .u8 0, .int .i64 0, .int .u64 0, .int .u64 0, .int .i64 0, .string ByteArray.empty]].toList 8 = some ([.agg [.lit (.int .u8 0), .lit (.int .i64 0), .lit (.int .i64 0), .lit (.int .i64 0), .lit (.int .i64 0), .lit (.string []), .lit (.string []), .lit (.int .u64 0), .lit (.int .u64 0), .agg [.lit (.int .u8 0), .lit (.int .i64 0), .agg [.lit (.string []), .agg [.lit (.int .u64 0), .lit (.int .u64 0)], .lit (.int .i64 0)], .agg [.lit (.int .u8 0), .lit (.int .i64 0), .lit (.int .u64 0), .lit (.int .u64 0)], .lit (.int .i64 0), .lit (.string [])]]], [], places) :=
  ⟨[], by kernel_rfl⟩
set_option maxRecDepth 100000 in
theorem contract (H : Type) (enc : TypeId × Value → H) (W : World) (base : Nat) (args : Array Value) (ds gs : List (DataW H)) (before : List MemPlace)
    (hval0 : ∀ (j : Nat) t v, Tryz.f4.params[j]? = some t → args[j]? = some v → Value.okWide Tryz.prog W .any base t v)
    (hW : DataW.Whole enc Tryz.prog Tryz.f4.params.toList Rows.worldNilSpec.vars false W args.toList ds gs before)
    (hsz0 : (DataW.weightsEach Tryz.prog (Tryz.f4.params.toList ++ Rows.worldNilSpec.plain.varTypes Tryz.prog) (ds ++ gs)).all (· ≤ reachBytes) = true) :
    Calls Tryz.prog 4 args W fun e W' => ∃ v, e = .returned v ∧ Rows.worldNilSpec.post enc Tryz.prog Tryz.f4 false true false false W args v W' := by
  have hsz := hsz0
  have hval := hval0
  have hW' := hW
  obtain ⟨p, q, hA0, hV, rfl, hfz, hnd⟩ := hW
  have hA : DataW.TrodAll enc Tryz.prog W 0 (fun _ => true) true Tryz.f4.params.toList args.toList ds p := hA0
  rw [Tryz.params4] at hA hval hsz
  obtain ⟨v0, vs0, d0, ds0, p0, q0, hargs, rfl, rfl, h0, r0⟩ := trodAll_cons hA
  obtain ⟨rfl, rfl, rfl⟩ := trodAll_nil r0
  obtain rfl : args = #[v0] := by cases args; simp_all
  obtain ⟨rfl, rfl⟩ := trodVars_none hV
  obtain ⟨cs0, rfl, hcs0⟩ := okWide_struct Tryz.underlying61 (hval 0 61 v0 rfl rfl)
  have k0 := h0
  have lt0 : ∀ x ∈ p0, x.block < W.heap.size := by obtain ⟨m, hm⟩ := k0; exact DataW.trod_lt m _ _ _ hm
  obtain ⟨fu0, hf0⟩ := h0
  have cl0 : Tryz.prog.cellsOf 61 = 21 := by kernel_rfl
  obtain ⟨a0_0, a0_1, a0_2, a0_3, a0_4, a0_5, a0_6, a0_7, a0_8, a0_9, a0_10, a0_11, a0_12, a0_13, a0_14, a0_15, a0_16, a0_17, a0_18, a0_19, a0_20, e0, w0_0, w0_1, w0_2, w0_3, w0_4, w0_5, w0_6, w0_7, w0_8, w0_9, w0_10, w0_11, w0_12, w0_13, w0_14, w0_15, w0_16, w0_17, w0_18, w0_19, w0_20⟩ := cells_61 (by rw [show (Value.agg cs0).cells = cs0 from rfl, Array.length_toList, hcs0, cl0]) hf0
  obtain rfl : cs0 = #[.int .u8 a0_0, .int .i64 a0_1, .int .i64 a0_2, .int .i64 a0_3, .int .i64 a0_4, .string a0_5, .string a0_6, .int .u64 a0_7, .int .u64 a0_8, .int .u8 a0_9, .int .i64 a0_10, .string a0_11, .int .u64 a0_12, .int .u64 a0_13, .int .i64 a0_14, .int .u8 a0_15, .int .i64 a0_16, .int .u64 a0_17, .int .u64 a0_18, .int .i64 a0_19, .string a0_20] := by apply Array.ext'; exact e0
  clear hA0 hval0 hsz0 hsz
  refine (Pr.worldNil_walk  ⟨a0_0, a0_1, a0_2, a0_3, a0_4, a0_5, a0_6, a0_7, a0_8, a0_9, a0_10, a0_11, a0_12, a0_13, a0_14, a0_15, a0_16, a0_17, a0_18, a0_19, a0_20⟩ W ).mono fun e W' ⟨he, bel⟩ => ?_
  subst he
  exact ⟨_, rfl, _, _, _, [], _, [], hW', trodAll_mk1 (shut_bool Tryz.underlying4 _), (trodAll_cons_mk (Below.trod laidOut (by kernel_rfl) (of_decide_eq_true (by kernel_rfl)) k0 bel lt0) trodAll_mk0), rfl, bel.frame _, fun h => by cases h⟩
set_option maxRecDepth 100000 in
theorem lifted (os : Os) (started : os.Started) (H : Type) (enc : TypeId × Value → H) (F : Stop.Interp) :
    ReturnsInHanded {} Tryz.checked os 4 .any ((OpenSpec.ofChange Rows.worldNilSpec).preRow enc Tryz.prog Tryz.f4 Rows.worldNilRow.domain false Rows.worldNilRow.laid) (((OpenSpec.ofChange Rows.worldNilSpec).at F).post enc Tryz.prog Tryz.f4 false true false false) := by
  obtain ⟨places, hx⟩ := reads os enc
  refine returnsInHanded_of_row (C := Tryz.checked) (s := OpenSpec.ofChange Rows.worldNilSpec) own started (by kernel_rfl) Tryz.func4
    (witness_row_at (enc := enc) (C := Tryz.checked) false (laidWorld os) #[.agg #[.int .u8 0, .int .i64 0, .int .i64 0, .int .i64 0, .int .i64 0, .string ByteArray.empty, .string ByteArray.empty, .int .u64 0, .int .u64 0, .int .u8 0, .int .i64 0, .string ByteArray.empty, .int .u64 0, .int .u64 0, .int .i64 0, .int .u8 0, .int .i64 0, .int .u64 0, .int .u64 0, .int .i64 0, .string ByteArray.empty]] rfl (by kernel_rfl) (by kernel_rfl) (by kernel_rfl)
      (OpenSpec.preRow_of_cond 8 hx (by kernel_rfl) (fun k hk => by cases hk) (by kernel_rfl) (laid_met os))) ?_
  intro W base args ds gs before hval hW _ _ hsz hL _ _
  exact contract H enc W base args ds gs before hval hW hsz
theorem and2 {a b : Bool} (h : a = true) (k : b = true) : (a && b) = true := by rw [h, k]; rfl
set_option maxHeartbeats 8000000 in
theorem closed : joinedFacts Tryz.pinned.checked.prog 4 Tryz.f4 (OpenSpec.ofChange Rows.worldNilSpec).bare Rows.worldNilRow = true := by
  unfold joinedFacts
  repeat' (with_reducible refine and2 ?_ ?_)
  all_goals (as_aux_lemma => kernel_rfl)
theorem said : Rows.WorldNilSaid :=
  OpenClaim.holds_of_cond 4 Tryz.f4 rfl rfl rfl rfl rfl rfl rfl ⟨rfl, rfl, rfl, rfl, rfl⟩ rfl rfl rfl rfl rfl (by kernel_rfl) Tryz.func4 closed
    (of_decide_eq_true (by kernel_rfl)) (by unfold Func.isWrapper; first | (rw [if_pos (by decide +kernel)]; kernel_rfl) | (rw [if_neg (by decide +kernel)]; exact ⟨rfl, rfl⟩))
    (fun os started H enc _ F => by rw [OpenClaim.pre_eq_preRow]; exact lifted os started H enc F)
theorem plain (f : FuncId) (fn : Func) (hf : Tryz.pinned.checked.prog.funcNamed "paymaster/paymasterlaw30.WorldNil" = some f) (hfn : Tryz.pinned.checked.prog.funcs[f]? = some fn) :
    true = Tryz.pinned.checked.prog.looks [] ∧ ∀ (j : Nat) t, fn.params[j]? = some t → Tryz.pinned.checked.prog.wantsStandIn t = false := by
  obtain rfl : f = 4 := Option.some.inj ((show Tryz.prog.funcNamed "paymaster/paymasterlaw30.WorldNil" = some 4 by kernel_rfl).symm.trans hf) |>.symm
  obtain rfl : fn = Tryz.f4 := (Option.some.inj (Tryz.func4.symm.trans hfn)).symm
  refine ⟨by kernel_rfl, fun j t ht => ?_⟩
  rw [Tryz.params4] at ht
  have hm : t ∈ [61] := by simpa using Array.mem_of_getElem? ht
  simp only [List.mem_cons, List.not_mem_nil, or_false] at hm
  rcases hm with rfl
  · exact (show Tryz.prog.wantsStandIn 61 = false by kernel_rfl)
/-- The card. -/
theorem proved : Rows.WorldNilCardSaid :=
  Claim7.holds_tied_plain_at .later [] _ _ _ _ said (fun _ h => by cases h) (by kernel_rfl) (fun _ h => by cases h) worldNil_row_tie rfl ⟨rfl, rfl⟩ (by kernel_rfl) rfl plain (by kernel_rfl)
#print axioms proved
end Go.Proofs.YtpgkmjbfmmjjnaaGreatDoor.worldNil
namespace Go.Proofs.YtpgkmjbfmmjjnaaGreatDoor
/-- Under a short name, for the claim. -/
theorem worldNil_holds : Rows.WorldNilCardSaid := worldNil.proved
end Go.Proofs.YtpgkmjbfmmjjnaaGreatDoor
