/- What an exchange that nobody made does: the contracts, and the law's walk (ExchangeNil). Written by mk_xnil.py. -/
import Derived.Test.YtpgkmjbfmmjjnaaGreatDoorProg
import Derived.Below
import Derived.Deep.Draws
import Derived.Deep.AppendLies
import Derived.Maps.AppendAt
import Derived.OwnWalk
import Derived.Laws.BytesArg
import Derived.Laws.MakeOwn
import Derived.Laws.OwnMore
import Derived.Deep.OwnRows
import Derived.Tactics
import Derived.Lib.ConvBytes
import Derived.Laws.Slices
import Derived.WalkKit
import Derived.KernelRfl
import Derived.RowKit3
import Derived.Deep.LoopGhost
import Derived.Deep.QuietTactic
import Derived.BigQuiet
import Derived.WideLaws
import Derived.Deep.DeepCutAuto
import Derived.Deep.CutBlock
import Derived.Deep.RegionHeld3
import Derived.Laws.Rows
import Derived.Lib.AppendStr
import Derived.ArgAppend
import Derived.Laws.IdiomCopy
import Derived.OrdersHeld
import Derived.Laws.BitsLemmas
import Derived.RowKit
import Derived.Test.YtpgkmjbfmmjjnaaGreatDoorWWords
import Derived.Test.YtpgkmjbfmmjjnaaGreatDoorWLast
import Derived.Test.YtpgkmjbfmmjjnaaGreatDoorWTab
import Derived.Test.YtpgkmjbfmmjjnaaGreatDoorWFour
import Derived.Test.YtpgkmjbfmmjjnaaGreatDoorWQPut
import Derived.Test.YtpgkmjbfmmjjnaaGreatDoorWApart
import Derived.Test.YtpgkmjbfmmjjnaaGreatDoorWArr
import Derived.Test.YtpgkmjbfmmjjnaaGreatDoorWZeros
import Derived.Test.YtpgkmjbfmmjjnaaGreatDoorWFoot
import Derived.Test.YtpgkmjbfmmjjnaaGreatDoorWKept
import Derived.Test.YtpgkmjbfmmjjnaaGreatDoorWShare
import Derived.Test.YtpgkmjbfmmjjnaaGreatDoorWN
import Derived.Test.YtpgkmjbfmmjjnaaGreatDoorWFootNe
import Derived.Test.YtpgkmjbfmmjjnaaGreatDoorWAt
import Derived.Test.YtpgkmjbfmmjjnaaGreatDoorWEqStruct
import Derived.Test.YtpgkmjbfmmjjnaaGreatDoorWRepsOne
import Derived.Test.YtpgkmjbfmmjjnaaGreatDoorWInv
import Derived.Test.YtpgkmjbfmmjjnaaGreatDoorWInvWords
import Derived.Test.YtpgkmjbfmmjjnaaGreatDoorWGuard
import Derived.Test.YtpgkmjbfmmjjnaaGreatDoorWNEv
import Derived.Test.YtpgkmjbfmmjjnaaGreatDoorWMore
namespace Go.Proofs.YtpgkmjbfmmjjnaaGreatDoor.Pr
open Go.RowKit Go.Proofs.YtpgkmjbfmmjjnaaGreatDoorW.PrintWords Go.Proofs.YtpgkmjbfmmjjnaaGreatDoorW.PrintLast Go.Proofs.YtpgkmjbfmmjjnaaGreatDoorW.PrintMore
set_option linter.unusedVariables false
set_option linter.unusedSimpArgs false
def XNone (w : World) (x : Value) : Prop := x = .pointer none ∨ ∃ B, x = .pointer (some ⟨B, 0, none⟩) ∧ w.heap[B]? = some (.cells #[.bool false, .int .i64 0, .int .i64 0, .string ⟨#[]⟩, .slice none 0 0, .int .i64 0] 34 (0, 0))
theorem XNone.below {w w1 : World} {x : Value} (h : XNone w x) (hb : Below w.heap.size w w1) : XNone w1 x := by
  rcases h with h | ⟨B, h, h2⟩
  · exact .inl h
  · exact .inr ⟨B, h, blk_below h2 hb⟩
theorem xnone_calls (w : World) (x : Value) (h : XNone w x) : Calls Tryz.prog 23 #[x] w fun e w' => e = .returned (.bool true) ∧ w' = w := by
  rcases h with rfl | ⟨B, rfl, h⟩
  · go_enter Tryz.func23, Tryz.ntmps23
    go_wp2
    go_ret
    exact ⟨rfl, rfl⟩
  · have hc : w.cell? ⟨B, 0, none⟩ = some (.bool false) := (blk_cell h 0).trans rfl
    clear h
    go_enter Tryz.func23, Tryz.ntmps23
    go_wp2
    go_ret
    exact ⟨rfl, rfl⟩
theorem xmade_calls (w : World) (B : Nat) (h : w.cell? ⟨B, 0, none⟩ = some (.bool true)) : Calls Tryz.prog 23 #[.pointer (some ⟨B, 0, none⟩)] w fun e w' => e = .returned (.bool false) ∧ w' = w := by
  go_enter Tryz.func23, Tryz.ntmps23
  go_wp2
  go_ret
  exact ⟨rfl, rfl⟩
def BNone (w : World) (x : Value) : Prop := x = .pointer none ∨ ∃ B, x = .pointer (some ⟨B, 0, none⟩) ∧ w.cell? ⟨B, 0, none⟩ = some (.int .i64 0)
theorem bnone_calls (w : World) (x : Value) (h : BNone w x) : Calls Tryz.prog 78 #[x] w fun e w' => e = .returned (.bool true) ∧ w' = w := by
  rcases h with rfl | ⟨B, rfl, h⟩
  · go_enter Tryz.func78, Tryz.ntmps78
    go_wp2
    go_ret
    exact ⟨rfl, rfl⟩
  · go_enter Tryz.func78, Tryz.ntmps78
    go_wp2
    go_ret
    exact ⟨rfl, rfl⟩
theorem window_calls (w : World) (x : Value) (h : BNone w x) : Calls Tryz.prog 38 #[x] w fun e w' => e = .returned (.int .i64 0) ∧ w' = w := by
  go_enter Tryz.func38, Tryz.ntmps38
  go_wp2_with fail
  refine (bnone_calls _ _ h).mono ?_
  rintro e w1 ⟨rfl, rfl⟩
  go_wp2
  go_ret
  exact ⟨rfl, rfl⟩
theorem board_new (w : World) : Calls Tryz.prog 5 #[.int .i64 1] w fun e w' => e = .returned (.tuple #[.pointer (some ⟨w.heap.size, 0, none⟩), .int .i64 0]) ∧ Below w.heap.size w w' := by
  go_enter Tryz.func5, Tryz.ntmps5
  go_wp2
  go_ret2
  exact ⟨rfl, (Below.refl _ _).alloc (Nat.le_refl _) _⟩
theorem ledger_calls (w : World) (x : Value) (s : ByteArray) (h : XNone w x) : Calls Tryz.prog 6 #[x, .string s] w fun e w' => e = .returned (.tuple #[.int .i64 0, .int .i64 1]) ∧ w' = w := by
  go_enter Tryz.func6, Tryz.ntmps6
  go_wp2_with fail
  refine (xnone_calls _ _ h).mono ?_
  rintro e w1 ⟨rfl, rfl⟩
  go_wp2
  go_ret2
  exact ⟨rfl, rfl⟩
theorem tell_calls (w : World) (x : Value) (s : ByteArray) (n : Int) (h : XNone w x) : Calls Tryz.prog 8 #[x, .string s, .int .i64 n] w fun e w' => e = .returned (.tuple #[.string ⟨#[]⟩, .int .i64 1]) ∧ w' = w := by
  go_enter Tryz.func8, Tryz.ntmps8
  go_wp2_with fail
  refine (xnone_calls _ _ h).mono ?_
  rintro e w1 ⟨rfl, rfl⟩
  go_wp2
  go_ret2
  exact ⟨rfl, rfl⟩
theorem run_calls (w : World) (x : Value) (b : Value) (h : XNone w x) : Calls Tryz.prog 9 #[x, b] w fun e w' => e = .returned (.tuple #[.int .i64 0, .int .i64 1]) ∧ w' = w := by
  go_enter Tryz.func9, Tryz.ntmps9
  go_wp2_with fail
  refine (xnone_calls _ _ h).mono ?_
  rintro e w1 ⟨rfl, rfl⟩
  go_wp2
  go_ret2
  exact ⟨rfl, rfl⟩
theorem many_calls (w : World) (x : Value) (h : XNone w x) : Calls Tryz.prog 10 #[x] w fun e w' => e = .returned (.int .i64 0) ∧ w' = w := by
  go_enter Tryz.func10, Tryz.ntmps10
  go_wp2_with fail
  refine (xnone_calls _ _ h).mono ?_
  rintro e w1 ⟨rfl, rfl⟩
  go_wp2
  go_ret
  exact ⟨rfl, rfl⟩
theorem published_calls (w : World) (x : Value) (h : XNone w x) : Calls Tryz.prog 11 #[x] w fun e w' => e = .returned (.int .i64 0) ∧ w' = w := by
  go_enter Tryz.func11, Tryz.ntmps11
  go_wp2_with fail
  refine (xnone_calls _ _ h).mono ?_
  rintro e w1 ⟨rfl, rfl⟩
  go_wp2
  go_ret
  exact ⟨rfl, rfl⟩
theorem snapshot_calls (w : World) (x : Value) (h : XNone w x) : Calls Tryz.prog 12 #[x, .int .i64 0] w fun e w' => e = .returned (.pointer none) ∧ w' = w := by
  go_enter Tryz.func12, Tryz.ntmps12
  go_wp2_with fail
  refine (many_calls _ _ h).mono ?_
  rintro e w1 ⟨rfl, rfl⟩
  go_wp2
  go_ret
  exact ⟨rfl, rfl⟩
theorem answer_calls (w : World) (x : Value) (q0 q1 q2 q3 : Int) (h : XNone w x) : Calls Tryz.prog 7 #[x, .agg #[.int .u8 q0, .int .i64 q1, .int .u64 q2, .int .u64 q3]] w fun e w' => e = .returned (.tuple #[.string ⟨#[]⟩, .int .i64 1]) ∧ Below w.heap.size w w' := by
  have h1 : XNone (w.alloc (.cells #[.int .u8 q0, .int .i64 q1, .int .u64 q2, .int .u64 q3] 24)) x := h.below ((Below.refl _ _).alloc (Nat.le_refl _) _)
  have H := Aside0.mk h1
  clear h h1
  go_enter Tryz.func7, Tryz.ntmps7
  go_wp2_with fail
  refine (xnone_calls _ _ H.out).mono ?_
  rintro e w1 ⟨rfl, rfl⟩
  go_wp2
  go_ret2
  exact ⟨rfl, (Below.refl _ _).alloc (Nat.le_refl _) _⟩
theorem may_calls (w : World) : Calls Tryz.prog 43 #[.agg #[.int .i64 0, .int .i64 1, .string ⟨#[]⟩]] w fun e w' => e = .returned (.int .i64 0) ∧ Below w.heap.size w w' := by
  go_enter Tryz.func43, Tryz.ntmps43
  go_wp2
  go_ret
  exact ⟨rfl, (Below.refl _ _).alloc (Nat.le_refl _) _⟩
theorem xnew_calls (w : World) : Calls Tryz.prog 13 #[.agg #[.int .i64 0, .int .i64 1, .string ⟨#[]⟩]] w fun e w' => ∃ B, e = .returned (.tuple #[.pointer (some ⟨B, 0, none⟩), .int .i64 0]) ∧ w'.cell? ⟨B, 0, none⟩ = some (.bool true) ∧ Below w.heap.size w w' := by
  have hB : Aside0 (Below w.heap.size w (w.alloc (.cells #[.int .i64 0, .int .i64 1, .string ⟨#[]⟩] 31))) := ⟨(Below.refl _ _).alloc (Nat.le_refl _) _⟩
  have hC := Aside0.mk (blk_new w (.cells #[.int .i64 0, .int .i64 1, .string ⟨#[]⟩] 31 (0, 0)))
  go_enter Tryz.func13, Tryz.ntmps13
  go_wp2_with fail
  refine (may_calls _).mono ?_
  rintro e w1 ⟨rfl, hb⟩
  have HB := Aside0.mk (hB.out.trans (hb.mono hB.out.size))
  have HC := Aside0.mk (blk_below hC.out hb)
  have c0 : w1.cell? ⟨w.heap.size, 0, none⟩ = some (.int .i64 0) := (blk_cell HC.out 0).trans rfl
  have c1 : w1.cell? ⟨w.heap.size, 1, none⟩ = some (.int .i64 1) := (blk_cell HC.out 1).trans rfl
  have c2 : w1.cell? ⟨w.heap.size, 2, none⟩ = some (.string ⟨#[]⟩) := (blk_cell HC.out 2).trans rfl
  clear hb hB hC HC
  go_wp2
  go_ret2
  exact ⟨w1.heap.size, rfl, (blk_cell (blk_new w1 (.cells #[.bool true, .int .i64 0, .int .i64 1, .string ⟨#[]⟩, .slice none 0 0, .int .i64 0] 34 (0, 0))) 0).trans rfl, HB.out.alloc HB.out.size _⟩
theorem run_no (w : World) (B : Nat) (b : Value) (h : w.cell? ⟨B, 0, none⟩ = some (.bool true)) (hb : BNone w b) : Calls Tryz.prog 9 #[.pointer (some ⟨B, 0, none⟩), b] w fun e w' => e = .returned (.tuple #[.int .i64 0, .int .i64 1]) ∧ w' = w := by
  have H := Aside0.mk h
  clear h
  go_enter Tryz.func9, Tryz.ntmps9
  go_wp2_with fail
  refine (xmade_calls _ _ H.out).mono ?_
  rintro e w1 ⟨rfl, rfl⟩
  go_wp2_with fail
  refine (window_calls _ _ hb).mono ?_
  rintro e w1 ⟨rfl, rfl⟩
  go_wp2
  go_ret2
  exact ⟨rfl, rfl⟩
theorem xcopy_calls (w : World) : Calls Tryz.prog 14 #[.pointer none] w fun e w' => e = .returned (.pointer none) ∧ w' = w := by
  go_enter Tryz.func14, Tryz.ntmps14
  go_wp2
  go_ret
  exact ⟨rfl, rfl⟩
end Go.Proofs.YtpgkmjbfmmjjnaaGreatDoor.Pr
