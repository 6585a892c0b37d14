/- Printed (KEY Pr) and by hand: draw.whole, draw.Gaps, draw.Reach, draw.Hits, and what they compute. -/
import Derived.Test.YtaeaacdjiijooaaProg
import Derived.Below
import Derived.Deep.Draws
import Derived.Deep.AppendLies
import Derived.Maps.AppendAt
import Derived.OwnWalk
import Derived.Laws.BytesArg
import Derived.Laws.MakeOwn
import Derived.Laws.OwnMore
import Derived.Deep.OwnRows
import Derived.Tactics
import Derived.Lib.ConvBytes
import Derived.Laws.Slices
import Derived.WalkKit
import Derived.KernelRfl
import Derived.RowKit3
import Derived.Deep.LoopGhost
import Derived.Deep.QuietTactic
import Derived.BigQuiet
import Derived.WideLaws
import Derived.Deep.DeepCutAuto
import Derived.Deep.CutBlock
import Derived.Deep.RegionHeld3
import Derived.Laws.Rows
import Derived.Lib.AppendStr
import Derived.ArgAppend
import Derived.Laws.IdiomCopy
import Derived.OrdersHeld
import Derived.Laws.BitsLemmas
import Derived.RowKit
import Derived.Test.YtaeaacdjiijooaaWWords
import Derived.Test.YtaeaacdjiijooaaWLast
import Derived.Test.YtaeaacdjiijooaaWTab
import Derived.Test.YtaeaacdjiijooaaWEqStruct
import Derived.Test.YtaeaacdjiijooaaWRepsOne
import Derived.Test.YtaeaacdjiijooaaWGuard
import Derived.Test.YtaeaacdjiijooaaWLess
import Derived.Shelf.SlSortCmp.NoneTotal
import Derived.Shelf.SlicesQ.IndexFunc
import Derived.Sort.AssemblyPlain
import Derived.WalkMore
import Derived.Deep.SlicePairs
import Derived.SizedLaws
-- Written by wip/tools/myprint.py (a print of the translation, turned). Not trusted: Lean checks it.
namespace Go.Proofs.Ytaeaacdjiijooaa.Pr
open Go.RowKit Go.Proofs.YtaeaacdjiijooaaW.PrintWords Go.Proofs.YtaeaacdjiijooaaW.PrintLast Go.Proofs.YtaeaacdjiijooaaW.PrintMore
attribute [local go_sem] max2_int min2_int max_two min_two max_three min_three max_four min_four   -- for this text's walks alone
set_option linter.unusedVariables false
set_option linter.unusedSimpArgs false



def errW : Option Int → Value
  | none => .nilIface
  | some c => .iface 0 (.int .i64 c)
theorem errW_none : errW none = .nilIface := rfl
theorem errW_some (c : Int) : errW (some c) = .iface 0 (.int .i64 c) := rfl

theorem info22 : (Try.prog.info? 22).map (fun i => (i.zero, i.size, i.bytes)) = some (some (.int .u64 0), 1, 8) := by kernel_rfl
theorem info29 : (Try.prog.info? 29).map (fun i => (i.zero, i.size, i.bytes)) = some (some (.agg #[(.int .u64 0), (.int .u64 0)]), 2, 16) := by kernel_rfl
theorem info67 : (Try.prog.info? 67).map (fun i => (i.zero, i.size, i.bytes)) = some (some (.agg #[(.int .i64 0), (.int .u64 0)]), 2, 16) := by kernel_rfl
-- the values' own types
/-! #### struct type 67 -/
structure S67 where
  f0 : Int
  f1 : Int
def z67 : S67 := ⟨(0 : Int), (0 : Int)⟩
def k67 : Kd S67 := Kd.iso (Kd.pair (Kd.int .i64) (Kd.int .u64)) (fun x : S67 => (x.f0, x.f1))
theorem k67_open {w : World} {x : S67} {cs : List Value} (h : k67.K w x cs) : cs = [.int .i64 x.f0, .int .u64 x.f1] := by
  obtain ⟨_, _, rfl, rfl, rfl⟩ := h
  exact rfl
theorem k67_openM {w : World} {base : Nat} {ok : Nat → Prop} {x : S67} {cs : List Value} (h : k67.M w base ok x cs) : cs = [.int .i64 x.f0, .int .u64 x.f1] := by
  obtain ⟨_, _, rfl, rfl, rfl⟩ := h
  exact rfl
theorem k67_mk (w : World) (x : S67)  : k67.K w x [.int .i64 x.f0, .int .u64 x.f1] := ⟨[.int .i64 x.f0], [.int .u64 x.f1], rfl, rfl, rfl⟩
theorem k67_mkM (w : World) (base : Nat) (ok : Nat → Prop) (x : S67)  : k67.M w base ok x [.int .i64 x.f0, .int .u64 x.f1] := ⟨[.int .i64 x.f0], [.int .u64 x.f1], rfl, rfl, rfl⟩
def rd_T67 (xs : List S67) (i : Int) : S67 := xs.getD i.toNat z67
theorem at_T67 {w : World} {A : Option Addr} {n : Nat} {xs : List S67} (h : Kd.C k67 w A n xs) (i : Int) (h0 : 0 ≤ i) (h1 : i < n) : ∃ ad , A = some ad ∧ w.cell? (ad.add (i.toNat * 2)) = some (.int .i64 (rd_T67 xs i).f0) ∧ w.cell? ⟨(ad.add (i.toNat * 2)).block, (ad.add (i.toNat * 2)).off + 1, none⟩ = some (.int .u64 (rd_T67 xs i).f1) := by
  obtain ⟨ad, c, e, _, hK, hc0⟩ := Kd.C_get h z67 i h0 h1
  have hc : ∀ j u, c[j]? = some u → w.cell? (ad.add (i.toNat * 2 + j)) = some u := hc0
  obtain rfl := k67_open hK
  exact ⟨ad, e, hc 0 _ rfl, by rw [← add_field _ _ 1 (by omega)]; exact hc 1 _ rfl⟩

/-! #### struct type 29 -/
structure S29 where
  f0 : Int
  f1 : Int
def z29 : S29 := ⟨(0 : Int), (0 : Int)⟩
def k29 : Kd S29 := Kd.iso (Kd.pair (Kd.int .u64) (Kd.int .u64)) (fun x : S29 => (x.f0, x.f1))
theorem k29_open {w : World} {x : S29} {cs : List Value} (h : k29.K w x cs) : cs = [.int .u64 x.f0, .int .u64 x.f1] := by
  obtain ⟨_, _, rfl, rfl, rfl⟩ := h
  exact rfl
theorem k29_openM {w : World} {base : Nat} {ok : Nat → Prop} {x : S29} {cs : List Value} (h : k29.M w base ok x cs) : cs = [.int .u64 x.f0, .int .u64 x.f1] := by
  obtain ⟨_, _, rfl, rfl, rfl⟩ := h
  exact rfl
theorem k29_mk (w : World) (x : S29)  : k29.K w x [.int .u64 x.f0, .int .u64 x.f1] := ⟨[.int .u64 x.f0], [.int .u64 x.f1], rfl, rfl, rfl⟩
theorem k29_mkM (w : World) (base : Nat) (ok : Nat → Prop) (x : S29)  : k29.M w base ok x [.int .u64 x.f0, .int .u64 x.f1] := ⟨[.int .u64 x.f0], [.int .u64 x.f1], rfl, rfl, rfl⟩
def rd_T29 (xs : List S29) (i : Int) : S29 := xs.getD i.toNat z29
theorem at_T29 {w : World} {A : Option Addr} {n : Nat} {xs : List S29} (h : Kd.C k29 w A n xs) (i : Int) (h0 : 0 ≤ i) (h1 : i < n) : ∃ ad , A = some ad ∧ w.cell? (ad.add (i.toNat * 2)) = some (.int .u64 (rd_T29 xs i).f0) ∧ w.cell? ⟨(ad.add (i.toNat * 2)).block, (ad.add (i.toNat * 2)).off + 1, none⟩ = some (.int .u64 (rd_T29 xs i).f1) := by
  obtain ⟨ad, c, e, _, hK, hc0⟩ := Kd.C_get h z29 i h0 h1
  have hc : ∀ j u, c[j]? = some u → w.cell? (ad.add (i.toNat * 2 + j)) = some u := hc0
  obtain rfl := k29_open hK
  exact ⟨ad, e, hc 0 _ rfl, by rw [← add_field _ _ 1 (by omega)]; exact hc 1 _ rfl⟩

end Go.Proofs.Ytaeaacdjiijooaa.Pr

-- Written by wip/tools/myprint.py (a print of the translation, turned). Not trusted: Lean checks it.
namespace Go.Proofs.Ytaeaacdjiijooaa.Pr
open Go.RowKit Go.Proofs.YtaeaacdjiijooaaW.PrintWords Go.Proofs.YtaeaacdjiijooaaW.PrintLast Go.Proofs.YtaeaacdjiijooaaW.PrintMore
attribute [local go_sem] max2_int min2_int max_two min_two max_three min_three max_four min_four   -- for this text's walks alone
set_option linter.unusedVariables false
set_option linter.unusedSimpArgs false

theorem eqA29 (d : Nat) (w : World) (x0 y0 : Int) (x1 y1 : Int) :
    (Op.equalIn (d + 2) 29 (.agg #[.int .u64 x0, .int .u64 x1]) (.agg #[.int .u64 y0, .int .u64 y1])).run Try.prog w = .ok (x0 == y0 && (x1 == y1)) w := by
  refine eqA_of Try.underlying29 (by kernel_rfl) ?_
  refine eqf_cons (by rfl) (by go_simp; rfl) (by go_simp; rfl) (by go_simp) ?_
  exact eqf_last (by rfl) (by go_simp; rfl) (by go_simp; rfl) (by go_simp)
end Go.Proofs.Ytaeaacdjiijooaa.Pr

-- Written by wip/tools/myprint.py (a print of the translation, turned). Not trusted: Lean checks it.
namespace Go.Proofs.Ytaeaacdjiijooaa.Pr
open Go.RowKit Go.Proofs.YtaeaacdjiijooaaW.PrintWords Go.Proofs.YtaeaacdjiijooaaW.PrintLast Go.Proofs.YtaeaacdjiijooaaW.PrintMore
attribute [local go_sem] max2_int min2_int max_two min_two max_three min_three max_four min_four   -- for this text's walks alone
set_option linter.unusedVariables false
set_option linter.unusedSimpArgs false

attribute [local go_sem high] eqA29
/-! ### paymasterref22_Same: function 16 -/
def paymasterref22_Same.l0 : Nat → List (S29) → List (S29) → Int → Option (Bool)
  | 0, _, _, _ => none
  | k + 1, x0, x1, x5 => if x5 < (x0.length : Int) then (if 0 ≤ x5 then (if x5 < (x1.length : Int) then (if (!(((rd_T29 x0 x5).f0) == ((rd_T29 x1 x5).f0)) || (!(((rd_T29 x0 x5).f1) == ((rd_T29 x1 x5).f1)))) = true then (some false) else (paymasterref22_Same.l0 k x0 x1 (wrap64 (x5 + 1)))) else (none)) else (none)) else (some true)
def paymasterref22_Same.f (k : Nat) (l0 : List (S29)) (l1 : List (S29)) : Option (Bool) := if (l0.length : Int) = (l1.length : Int) then (paymasterref22_Same.l0 k l0 l1 0) else (some false)
theorem paymasterref22_Same.mono_l : ∀ k, (∀ y0 y1 y2, LeO (paymasterref22_Same.l0 k y0 y1 y2) (paymasterref22_Same.l0 (k + 1) y0 y1 y2))
  | 0 => fun _ _ _ r h => by simp [paymasterref22_Same.l0] at h
  | k + 1 => by
    have ih0 := paymasterref22_Same.mono_l k
    · intro y0 y1 y2
      unfold paymasterref22_Same.l0
      repeat' first
      | (with_reducible exact ih0 _ _ _)
      | (with_reducible exact LeO.refl _)
      | (with_reducible exact LeO.none _)
      | (with_reducible refine LeO.ite ?_ ?_)
      | (with_reducible refine LeO.bind ?_ (fun _ => ?_))
      | exact ih0 _ _ _
      | exact LeO.none _
      | refine LeO.ite ?_ ?_
      | refine LeO.bind ?_ (fun _ => ?_)
theorem paymasterref22_Same.mono : ∀ a0 a1 k, LeO (paymasterref22_Same.f k a0 a1) (paymasterref22_Same.f (k + 1) a0 a1) := by
  intro a0 a1 k
  have ih0 := paymasterref22_Same.mono_l k
  unfold paymasterref22_Same.f
  repeat' first
      | (with_reducible exact ih0 _ _ _)
      | (with_reducible exact LeO.refl _)
      | (with_reducible exact LeO.none _)
      | (with_reducible refine LeO.ite ?_ ?_)
      | (with_reducible refine LeO.bind ?_ (fun _ => ?_))
      | exact ih0 _ _ _
      | exact LeO.none _
      | refine LeO.ite ?_ ?_
      | refine LeO.bind ?_ (fun _ => ?_)
set_option maxHeartbeats 8000000 in
set_option maxRecDepth 100000 in
theorem paymasterref22_Same.calls (k : Nat) (A0 : Option Addr) (c0 : Nat) (l0 : List (S29)) (A1 : Option Addr) (c1 : Nat) (l1 : List (S29)) (r : Bool) (w : World) (hr0 : Kd.C k29 w A0 l0.length l0) (hc0 : l0.length ≤ c0) (hr1 : Kd.C k29 w A1 l1.length l1) (hc1 : l1.length ≤ c1) (h : paymasterref22_Same.f k l0 l1 = some r) :
    Calls Try.prog 16 #[.slice A0 l0.length c0, .slice A1 l1.length c1] w fun e w' => e = .returned (.bool r) ∧ Drawn0 w w' := by
  have hu29 := Try.underlying29
  have HR0 := Aside0.mk hr0
  have HC0 := Aside0.mk hc0
  clear hr0 hc0
  have HR1 := Aside0.mk hr1
  have HC1 := Aside0.mk hc1
  clear hr1 hc1
  have H : (if (l0.length : Int) = (l1.length : Int) then (paymasterref22_Same.l0 k l0 l1 0) else (some false)) = some r := h
  clear h
  by_cases c3 : (l0.length : Int) = (l1.length : Int)
  · rw [if_pos c3] at H
    have c3b0 : ((l0.length : Int) == (l1.length : Int)) = true := beq_iff_eq.mpr c3
    have c3b1 : ((l0.length : Int) != (l1.length : Int)) = false := bne_eq_false_iff_eq.mpr c3
    have c3b2 : (l0.length == l1.length) = true := by first | simpa using c3 | (simp at c3 ⊢; omega)
    clear c3
    have H' := Aside0.mk H
    clear H
    go_enter Try.func16, Try.ntmps16
    go_wp2
    repeat (go_quiet (fail); try go_wp2)
    go_loopg [5] k (fun kq v5 w' => ∃ (x5_1 : Int), v5 = .int .i64 x5_1 ∧ Aside0 (paymasterref22_Same.l0 kq l0 l1 x5_1 = some r) ∧ Aside0 (kq ≤ k) ∧ Drawn0 w w')
    case atStart => exact ⟨(0), (by first | rfl | (simp; done) | (simp [*]; done)), H', ⟨Nat.le_refl _⟩, by repeat (first | exact Drawn0.refl _ | apply Drawn0.step)⟩
    case round =>
      clear H'
      try clear c1
      try clear p2
      try clear c3
      try clear c3b0
      try clear c3b1
      try clear c3b2
      obtain ⟨x5_1, rfl, HA, HK1, ⟨m1, rfl⟩⟩ := hrel
      cases gk with
      | zero => exact absurd HA.out (by simp [paymasterref22_Same.l0])
      | succ k1 =>
        have H := HA.out
        clear HA
        simp only [paymasterref22_Same.l0] at H
        by_cases c4 : x5_1 < (l0.length : Int)
        · rw [if_pos c4] at H
          have c4b0 : decide (x5_1 < (l0.length : Int)) = true := decide_eq_true c4
          clear c4
          by_cases c5 : 0 ≤ x5_1
          · rw [if_pos c5] at H
            have c5b0 : decide (0 ≤ x5_1) = true := decide_eq_true c5
            clear c5
            by_cases c6 : x5_1 < (l1.length : Int)
            · rw [if_pos c6] at H
              have c6b0 : decide (x5_1 < (l1.length : Int)) = true := decide_eq_true c6
              clear c6
              by_cases c7 : (!(((rd_T29 l0 x5_1).f0) == ((rd_T29 l1 x5_1).f0)) || (!(((rd_T29 l0 x5_1).f1) == ((rd_T29 l1 x5_1).f1)))) = true
              · rw [if_pos c7] at H
                have c7b0 : (!(((rd_T29 l0 x5_1).f0) == ((rd_T29 l1 x5_1).f0)) || (!(((rd_T29 l0 x5_1).f1) == ((rd_T29 l1 x5_1).f1)))) = true := c7
                clear c7
                obtain rfl := Option.some.inj H
                have p147 : 0 ≤ (x5_1 : Int) := of_decide_eq_true (by first | (with_reducible assumption) | assumption)
                have q147 : x5_1 < (l0.length : Int) := of_decide_eq_true (by first | (with_reducible assumption) | assumption)
                obtain ⟨ad147, e147, hx147_0, hx147_1⟩ := at_T29 HR0.out x5_1 p147 q147
                cases e147
                replace p147 := eq_true p147
                replace q147 := eq_true q147
                have p148 : 0 ≤ (x5_1 : Int) := of_decide_eq_true (by first | (with_reducible assumption) | assumption)
                have q148 : x5_1 < (l1.length : Int) := of_decide_eq_true (by first | (with_reducible assumption) | assumption)
                obtain ⟨ad148, e148, hx148_0, hx148_1⟩ := at_T29 HR1.out x5_1 p148 q148
                cases e148
                replace p148 := eq_true p148
                replace q148 := eq_true q148
                go_wp2
                repeat (go_quiet (fail); try go_wp2)
                go_ret
                exact ⟨by first | rfl | (simp; done) | (simp [*]; done), by repeat (first | exact Drawn0.refl _ | apply Drawn0.step)⟩
              · rw [if_neg c7] at H
                have c7b0 : (!(((rd_T29 l0 x5_1).f0) == ((rd_T29 l1 x5_1).f0)) || (!(((rd_T29 l0 x5_1).f1) == ((rd_T29 l1 x5_1).f1)))) = false := by simpa using c7
                clear c7
                have H' := Aside0.mk H
                clear H
                have p147 : 0 ≤ (x5_1 : Int) := of_decide_eq_true (by first | (with_reducible assumption) | assumption)
                have q147 : x5_1 < (l0.length : Int) := of_decide_eq_true (by first | (with_reducible assumption) | assumption)
                obtain ⟨ad147, e147, hx147_0, hx147_1⟩ := at_T29 HR0.out x5_1 p147 q147
                cases e147
                replace p147 := eq_true p147
                replace q147 := eq_true q147
                have p148 : 0 ≤ (x5_1 : Int) := of_decide_eq_true (by first | (with_reducible assumption) | assumption)
                have q148 : x5_1 < (l1.length : Int) := of_decide_eq_true (by first | (with_reducible assumption) | assumption)
                obtain ⟨ad148, e148, hx148_0, hx148_1⟩ := at_T29 HR1.out x5_1 p148 q148
                cases e148
                replace p148 := eq_true p148
                replace q148 := eq_true q148
                go_wp2
                repeat (go_quiet (fail); try go_wp2)
                go_roundg k1
                case measure => have := HK1.out; omega
                case rel => exact ⟨(wrap64 (x5_1 + 1)), (by first | rfl | (simp; done) | (simp [*]; done)), H', ⟨by have := HK1.out; omega⟩, by repeat (first | exact Drawn0.refl _ | apply Drawn0.step)⟩
            · rw [if_neg c6] at H
              exact absurd H (by simp)
          · rw [if_neg c5] at H
            exact absurd H (by simp)
        · rw [if_neg c4] at H
          have c4b0 : decide (x5_1 < (l0.length : Int)) = false := decide_eq_false c4
          clear c4
          obtain rfl := Option.some.inj H
          go_wp2
          repeat (go_quiet (fail); try go_wp2)
          go_ret
          exact ⟨by first | rfl | (simp; done) | (simp [*]; done), by repeat (first | exact Drawn0.refl _ | apply Drawn0.step)⟩
  · rw [if_neg c3] at H
    have c3b0 : ((l0.length : Int) == (l1.length : Int)) = false := beq_eq_false_iff_ne.mpr c3
    have c3b1 : ((l0.length : Int) != (l1.length : Int)) = true := bne_iff_ne.mpr c3
    have c3b2 : (l0.length == l1.length) = false := by first | simpa using c3 | (simp at c3 ⊢; omega)
    obtain rfl := Option.some.inj H
    go_enter Try.func16, Try.ntmps16
    go_wp2
    repeat (go_quiet (fail); try go_wp2)
    go_ret
    exact ⟨by first | rfl | (simp; done) | (simp [*]; done), by repeat (first | exact Drawn0.refl _ | apply Drawn0.step)⟩

end Go.Proofs.Ytaeaacdjiijooaa.Pr

/-
  DERIVED: THE SHELF's CONTRACTS AT THIS DUMP, IN PLAIN WORDS (tools/lay-plain.mjs out of 'TryShelf.lean', which tools/lay-shelf.mjs wrote): THE SAME DECLARATIONS UNDER THE SAME NAMES: 'import', 'namespace', 'open', 'def', 'theorem' AND NOTHING ELSE: no command of the shelf's: FOR A HAND-IN. Each laying: the table of numbers ('.._ren') and one theorem, a field a fact of the dump's own or the kernel's comparison; each contract: ONE APPLICATION.
-/
namespace Go.Proofs
open Go.Shelf
def Try.sortSp_ren : Go.Shelf.Ren := ⟨fun | 6 => 45 | 15 => 52 | 14 => 51 | 28 => 62 | 29 => 63 | 20 => 54 | 21 => 55 | 22 => 56 | 23 => 57 | 24 => 58 | 25 => 59 | 26 => 60 | 27 => 61 | 46 => 64 | 47 => 65 | 48 => 66 | 49 => 67 | 50 => 68 | 57 => 69 | n => n, fun | 22 => 36 | 24 => 29 | 25 => 86 | 3 => 3 | 39 => 57 | 0 => 0 | 53 => 100 | 55 => 22 | 4 => 4 | 46 => 94 | 45 => 93 | 50 => 76 | 5 => 5 | 9 => 9 | 66 => 102 | 70 => 106 | 76 => 108 | 77 => 109 | n => n, fun | n => n⟩
theorem Try.sortSp : Go.Proofs.SlLaysF0.n6 Try.prog Try.sortSp_ren := {
  mixed := by kernel_rfl
  f6 := ⟨Try.f45.name, by decide, Try.func45.trans (congrArg some (by kernel_rfl))⟩
  f14 := ⟨Try.f51.name, by decide, Try.func51.trans (congrArg some (by kernel_rfl))⟩
  f15 := Try.func52.trans (congrArg some (by kernel_rfl))
  f20 := ⟨Try.f54.name, by decide, Try.func54.trans (congrArg some (by kernel_rfl))⟩
  f21 := ⟨Try.f55.name, by decide, Try.func55.trans (congrArg some (by kernel_rfl))⟩
  f22 := ⟨Try.f56.name, by decide, Try.func56.trans (congrArg some (by kernel_rfl))⟩
  f23 := ⟨Try.f57.name, by decide, Try.func57.trans (congrArg some (by kernel_rfl))⟩
  f24 := ⟨Try.f58.name, by decide, Try.func58.trans (congrArg some (by kernel_rfl))⟩
  f25 := ⟨Try.f59.name, by decide, Try.func59.trans (congrArg some (by kernel_rfl))⟩
  f26 := ⟨Try.f60.name, by decide, Try.func60.trans (congrArg some (by kernel_rfl))⟩
  f27 := ⟨Try.f61.name, by decide, Try.func61.trans (congrArg some (by kernel_rfl))⟩
  f28 := Try.func62.trans (congrArg some (by kernel_rfl))
  f29 := Try.func63.trans (congrArg some (by kernel_rfl))
  f46 := ⟨Try.f64.name, by decide, Try.func64.trans (congrArg some (by kernel_rfl))⟩
  f47 := Try.func65.trans (congrArg some (by kernel_rfl))
  f48 := Try.func66.trans (congrArg some (by kernel_rfl))
  f49 := ⟨Try.f67.name, by decide, Try.func67.trans (congrArg some (by kernel_rfl))⟩
  f50 := ⟨Try.f68.name, by decide, Try.func68.trans (congrArg some (by kernel_rfl))⟩
  f57 := ⟨Try.f69.name, by decide, Try.func69.trans (congrArg some (by kernel_rfl))⟩
  t0 := Try.underlying0
  a0 := Try.isAgg0
  z0 := Try.sizeOf0
  v0 := Try.zeroValue0
  t3 := Try.underlying3
  a3 := Try.isAgg3
  z3 := Try.sizeOf3
  v3 := Try.zeroValue3
  t4 := Try.underlying4
  a4 := Try.isAgg4
  z4 := Try.sizeOf4
  v4 := Try.zeroValue4
  t5 := Try.underlying5
  a5 := Try.isAgg5
  z5 := Try.sizeOf5
  v5 := Try.zeroValue5
  t9 := Try.underlying9
  a9 := Try.isAgg9
  z9 := Try.sizeOf9
  v9 := Try.zeroValue9
  t22 := Try.underlying36
  a22 := Try.isAgg36
  z22 := Try.sizeOf36
  v22 := Try.zeroValue36
  t25 := Try.underlying86
  a25 := Try.isAgg86
  z25 := Try.sizeOf86
  v25 := Try.zeroValue86
  t39 := Try.underlying57
  a39 := Try.isAgg57
  z39 := Try.sizeOf57
  v39 := Try.zeroValue57
  t45 := Try.underlying93
  a45 := Try.isAgg93
  z45 := Try.sizeOf93
  v45 := Try.zeroValue93
  t46 := Try.underlying94
  a46 := Try.isAgg94
  z46 := Try.sizeOf94
  v46 := Try.zeroValue94
  t50 := Try.underlying76
  a50 := Try.isAgg76
  z50 := Try.sizeOf76
  v50 := Try.zeroValue76
  t53 := Try.underlying100
  a53 := Try.isAgg100
  z53 := Try.sizeOf100
  v53 := Try.zeroValue100
  t55 := Try.underlying22
  a55 := Try.isAgg22
  z55 := Try.sizeOf22
  v55 := Try.zeroValue22
  t66 := Try.underlying102
  a66 := Try.isAgg102
  z66 := Try.sizeOf102
  v66 := Try.zeroValue102
  t70 := Try.underlying106
  a70 := Try.isAgg106
  z70 := Try.sizeOf106
  v70 := Try.zeroValue106
  t76 := Try.underlying108
  a76 := Try.isAgg108
  z76 := Try.sizeOf108
  v76 := Try.zeroValue108
  t77 := Try.underlying109
  a77 := Try.isAgg109
  z77 := Try.sizeOf109
  v77 := Try.zeroValue109 }
def Try.containsSp_ren : Go.Shelf.Ren := ⟨fun | 8 => 42 | 6 => 50 | n => n, fun | 22 => 36 | 23 => 29 | 25 => 82 | 4 => 4 | 3 => 3 | 0 => 0 | n => n, fun | n => n⟩
theorem Try.containsSp : Go.Proofs.SlLaysH0.n8 Try.prog Try.containsSp_ren := {
  mixed := by kernel_rfl
  f6 := ⟨Try.f50.name, by decide, Try.func50.trans (congrArg some (by kernel_rfl))⟩
  f8 := ⟨Try.f42.name, by decide, Try.func42.trans (congrArg some (by kernel_rfl))⟩
  t0 := Try.underlying0
  a0 := Try.isAgg0
  z0 := Try.sizeOf0
  v0 := Try.zeroValue0
  t3 := Try.underlying3
  a3 := Try.isAgg3
  z3 := Try.sizeOf3
  v3 := Try.zeroValue3
  t4 := Try.underlying4
  a4 := Try.isAgg4
  z4 := Try.sizeOf4
  v4 := Try.zeroValue4
  t22 := Try.underlying36
  a22 := Try.isAgg36
  z22 := Try.sizeOf36
  v22 := Try.zeroValue36
  t25 := Try.underlying82
  a25 := Try.isAgg82
  z25 := Try.sizeOf82
  v25 := Try.zeroValue82 }
end Go.Proofs

-- Written by wip/tools/myprint.py (a print of the translation, turned). Not trusted: Lean checks it.
namespace Go.Proofs.Ytaeaacdjiijooaa.Pr
open Go.RowKit Go.Proofs.YtaeaacdjiijooaaW.PrintWords Go.Proofs.YtaeaacdjiijooaaW.PrintLast Go.Proofs.YtaeaacdjiijooaaW.PrintMore
attribute [local go_sem] max2_int min2_int max_two min_two max_three min_three max_four min_four   -- for this text's walks alone
set_option linter.unusedVariables false
set_option linter.unusedSimpArgs false

/-! ### draw_high: function 27 -/
def draw_high.f (a0 : Int) : Option (Bool) := if a0 ≥ 0 then (some (decide (a0 ≤ 63))) else (some false)
set_option maxHeartbeats 8000000 in
set_option maxRecDepth 100000 in
theorem draw_high.calls (a0 : Int) (r : Bool) (w : World) (h : draw_high.f a0 = some r) :
    Calls Try.prog 27 #[.int .i64 a0] w fun e w' => e = .returned (.bool r) ∧ Drawn0 w w' := by
  have H : (if a0 ≥ 0 then (some (decide (a0 ≤ 63))) else (some false)) = some r := h
  clear h
  by_cases c2 : a0 ≥ 0
  · rw [if_pos c2] at H
    have c2b0 : decide (0 ≤ a0) = true := decide_eq_true c2
    clear c2
    obtain rfl := Option.some.inj H
    go_enter Try.func27, Try.ntmps27
    go_wp2
    go_ret
    exact ⟨by first | rfl | (simp; done) | (simp [*]; done), by repeat (first | exact Drawn0.refl _ | apply Drawn0.step)⟩
  · rw [if_neg c2] at H
    have c2b0 : decide (0 ≤ a0) = false := decide_eq_false c2
    clear c2
    obtain rfl := Option.some.inj H
    go_enter Try.func27, Try.ntmps27
    go_wp2
    go_ret
    exact ⟨by first | rfl | (simp; done) | (simp [*]; done), by repeat (first | exact Drawn0.refl _ | apply Drawn0.step)⟩

-- NOT PRINTED: function 50 (draw_Span_50)

-- NOT PRINTED: function 42 (draw_Span_42)

-- NOT PRINTED: function 44 (draw_Span_44)

-- NOT PRINTED: function 54 (draw_Span_54)

-- NOT PRINTED: function 64 (draw_Span_64)

-- NOT PRINTED: function 55 (draw_Span_55)

end Go.Proofs.Ytaeaacdjiijooaa.Pr

-- Written by wip/tools/myprint.py (a print of the translation, turned). Not trusted: Lean checks it.
namespace Go.Proofs.Ytaeaacdjiijooaa.Pr
open Go.RowKit Go.Proofs.YtaeaacdjiijooaaW.PrintWords Go.Proofs.YtaeaacdjiijooaaW.PrintLast Go.Proofs.YtaeaacdjiijooaaW.PrintMore
attribute [local go_sem] max2_int min2_int max_two min_two max_three min_three max_four min_four   -- for this text's walks alone
set_option linter.unusedVariables false
set_option linter.unusedSimpArgs false

/-! ### cmp_isNaN_uint64: function 53 -/
def cmp_isNaN_uint64.f (a0 : Int) : Option (Bool) := some (a0 != a0)
set_option maxHeartbeats 8000000 in
set_option maxRecDepth 100000 in
theorem cmp_isNaN_uint64.calls (a0 : Int) (r : Bool) (w : World) (h : cmp_isNaN_uint64.f a0 = some r) :
    Calls Try.prog 53 #[.int .u64 a0] w fun e w' => e = .returned (.bool r) ∧ Drawn0 w w' := by
  have H : (some (a0 != a0)) = some r := h
  clear h
  obtain rfl := Option.some.inj H
  go_enter Try.func53, Try.ntmps53
  go_wp2
  go_ret
  exact ⟨by first | rfl | (simp; done) | (simp [*]; done), by repeat (first | exact Drawn0.refl _ | apply Drawn0.step)⟩

/-! ### cmp_Less_uint64: function 48 -/
def cmp_Less_uint64.f (a0 : Int) (a1 : Int) : Option (Bool) := (cmp_isNaN_uint64.f a0).bind fun t218 => (if t218 = true then ((cmp_isNaN_uint64.f a1).bind fun t219 => (if t219 = true then (some (decide (a0 < a1))) else (some true))) else (some (decide (a0 < a1))))
set_option maxHeartbeats 8000000 in
set_option maxRecDepth 100000 in
theorem cmp_Less_uint64.calls (a0 : Int) (a1 : Int) (r : Bool) (w : World) (h : cmp_Less_uint64.f a0 a1 = some r) :
    Calls Try.prog 48 #[.int .u64 a0, .int .u64 a1] w fun e w' => e = .returned (.bool r) ∧ Drawn0 w w' := by
  have H : ((cmp_isNaN_uint64.f a0).bind fun t218 => (if t218 = true then ((cmp_isNaN_uint64.f a1).bind fun t219 => (if t219 = true then (some (decide (a0 < a1))) else (some true))) else (some (decide (a0 < a1))))) = some r := h
  clear h
  replace H := Option.bind_eq_some_iff.mp H
  obtain ⟨t218, A30, H⟩ := H
  replace H : (if t218 = true then ((cmp_isNaN_uint64.f a1).bind fun t219 => (if t219 = true then (some (decide (a0 < a1))) else (some true))) else (some (decide (a0 < a1)))) = some r := H
  have A3 := Aside0.mk A30
  clear A30
  by_cases c4 : t218 = true
  · subst c4
    have H1 : ((cmp_isNaN_uint64.f a1).bind fun t219 => (if t219 = true then (some (decide (a0 < a1))) else (some true))) = some r := by rw [if_pos rfl] at H; exact H
    clear H
    have H := H1
    clear H1
    replace H := Option.bind_eq_some_iff.mp H
    obtain ⟨t219, A50, H⟩ := H
    replace H : (if t219 = true then (some (decide (a0 < a1))) else (some true)) = some r := H
    have A5 := Aside0.mk A50
    clear A50
    by_cases c6 : t219 = true
    · subst c6
      have H1 : (some (decide (a0 < a1))) = some r := by rw [if_pos rfl] at H; exact H
      clear H
      have H := H1
      clear H1
      obtain rfl := Option.some.inj H
      go_enter Try.func48, Try.ntmps48
      go_wp2_with (first | ((with_reducible refine gate_callee (f := 53) rfl ?_); refine goesL_ (some 6) rfl rfl Try.func53 (by kernel_rfl) rfl #[.int .u64 a0] rfl (by (try simp only [List.map_toArray, List.map_cons, List.map_nil]); first | done | rfl | (simp only [List.length_drop, List.length_take]; rfl)) ?_; (with_reducible refine (cmp_isNaN_uint64.calls a0 true _ A3.out).mono ?_); rintro e w' ⟨rfl, ⟨nd, rfl⟩⟩; refine ⟨_, rfl, ?_⟩) | (go_at_call 53; (with_reducible refine (cmp_isNaN_uint64.calls a1 true _ A5.out).mono ?_); rintro e w' ⟨rfl, ⟨nd, rfl⟩⟩))
      go_ret
      exact ⟨by first | rfl | (simp; done) | (simp [*]; done), by repeat (first | exact Drawn0.refl _ | apply Drawn0.step)⟩
    · replace c6 := Bool.eq_false_iff.mpr c6
      subst c6
      have H1 : (some true) = some r := by rw [if_neg (show ¬ (false = true) by decide)] at H; exact H
      clear H
      have H := H1
      clear H1
      obtain rfl := Option.some.inj H
      go_enter Try.func48, Try.ntmps48
      go_wp2_with (first | ((with_reducible refine gate_callee (f := 53) rfl ?_); refine goesL_ (some 6) rfl rfl Try.func53 (by kernel_rfl) rfl #[.int .u64 a0] rfl (by (try simp only [List.map_toArray, List.map_cons, List.map_nil]); first | done | rfl | (simp only [List.length_drop, List.length_take]; rfl)) ?_; (with_reducible refine (cmp_isNaN_uint64.calls a0 true _ A3.out).mono ?_); rintro e w' ⟨rfl, ⟨nd, rfl⟩⟩; refine ⟨_, rfl, ?_⟩) | (go_at_call 53; (with_reducible refine (cmp_isNaN_uint64.calls a1 false _ A5.out).mono ?_); rintro e w' ⟨rfl, ⟨nd, rfl⟩⟩))
      go_ret
      exact ⟨by first | rfl | (simp; done) | (simp [*]; done), by repeat (first | exact Drawn0.refl _ | apply Drawn0.step)⟩
  · replace c4 := Bool.eq_false_iff.mpr c4
    subst c4
    have H1 : (some (decide (a0 < a1))) = some r := by rw [if_neg (show ¬ (false = true) by decide)] at H; exact H
    clear H
    have H := H1
    clear H1
    obtain rfl := Option.some.inj H
    go_enter Try.func48, Try.ntmps48
    go_wp2_with (first | ((with_reducible refine gate_callee (f := 53) rfl ?_); refine goesL_ (some 6) rfl rfl Try.func53 (by kernel_rfl) rfl #[.int .u64 a0] rfl (by (try simp only [List.map_toArray, List.map_cons, List.map_nil]); first | done | rfl | (simp only [List.length_drop, List.length_take]; rfl)) ?_; (with_reducible refine (cmp_isNaN_uint64.calls a0 false _ A3.out).mono ?_); rintro e w' ⟨rfl, ⟨nd, rfl⟩⟩; refine ⟨_, rfl, ?_⟩))
    go_ret
    exact ⟨by first | rfl | (simp; done) | (simp [*]; done), by repeat (first | exact Drawn0.refl _ | apply Drawn0.step)⟩

/-! ### slices_isNaN_uint64: function 49 -/
def slices_isNaN_uint64.f (a0 : Int) : Option (Bool) := some (a0 != a0)
set_option maxHeartbeats 8000000 in
set_option maxRecDepth 100000 in
theorem slices_isNaN_uint64.calls (a0 : Int) (r : Bool) (w : World) (h : slices_isNaN_uint64.f a0 = some r) :
    Calls Try.prog 49 #[.int .u64 a0] w fun e w' => e = .returned (.bool r) ∧ Drawn0 w w' := by
  have H : (some (a0 != a0)) = some r := h
  clear h
  obtain rfl := Option.some.inj H
  go_enter Try.func49, Try.ntmps49
  go_wp2
  go_ret
  exact ⟨by first | rfl | (simp; done) | (simp [*]; done), by repeat (first | exact Drawn0.refl _ | apply Drawn0.step)⟩

end Go.Proofs.Ytaeaacdjiijooaa.Pr

-- Written by wip/tools/myprint.py (a print of the translation, turned). Not trusted: Lean checks it.
namespace Go.Proofs.Ytaeaacdjiijooaa.Pr
open Go.RowKit Go.Proofs.YtaeaacdjiijooaaW.PrintWords Go.Proofs.YtaeaacdjiijooaaW.PrintLast Go.Proofs.YtaeaacdjiijooaaW.PrintMore
attribute [local go_sem] max2_int min2_int max_two min_two max_three min_three max_four min_four   -- for this text's walks alone
set_option linter.unusedVariables false
set_option linter.unusedSimpArgs false

/-! ### cover_high: function 31 -/
def cover_high.f (a0 : Int) : Option (Bool) := if a0 ≥ 0 then (some (decide (a0 ≤ 63))) else (some false)
set_option maxHeartbeats 8000000 in
set_option maxRecDepth 100000 in
theorem cover_high.calls (a0 : Int) (r : Bool) (w : World) (h : cover_high.f a0 = some r) :
    Calls Try.prog 31 #[.int .i64 a0] w fun e w' => e = .returned (.bool r) ∧ Drawn0 w w' := by
  have H : (if a0 ≥ 0 then (some (decide (a0 ≤ 63))) else (some false)) = some r := h
  clear h
  by_cases c2 : a0 ≥ 0
  · rw [if_pos c2] at H
    have c2b0 : decide (0 ≤ a0) = true := decide_eq_true c2
    clear c2
    obtain rfl := Option.some.inj H
    go_enter Try.func31, Try.ntmps31
    go_wp2
    go_ret
    exact ⟨by first | rfl | (simp; done) | (simp [*]; done), by repeat (first | exact Drawn0.refl _ | apply Drawn0.step)⟩
  · rw [if_neg c2] at H
    have c2b0 : decide (0 ≤ a0) = false := decide_eq_false c2
    clear c2
    obtain rfl := Option.some.inj H
    go_enter Try.func31, Try.ntmps31
    go_wp2
    go_ret
    exact ⟨by first | rfl | (simp; done) | (simp [*]; done), by repeat (first | exact Drawn0.refl _ | apply Drawn0.step)⟩

-- NOT PRINTED: function 38 (cover_Block_38)

-- NOT PRINTED: function 32 (cover_Block_32)

-- NOT PRINTED: function 33 (cover_around)

/-! ### paymasterref16_Two: function 28 -/
def paymasterref16_Two.l0 : Nat → Int → Int → Int → Option (Int)
  | 0, _, _, _ => none
  | k + 1, x0, x3, x4 => if x4 < x0 then (paymasterref16_Two.l0 k x0 (IntKind.u64.wrap (2 * x3)) (wrap64 (x4 + 1))) else (some x3)
def paymasterref16_Two.f (k : Nat) (a0 : Int) : Option (Int) := paymasterref16_Two.l0 k a0 1 0
theorem paymasterref16_Two.mono_l : ∀ k, (∀ y0 y1 y2, LeO (paymasterref16_Two.l0 k y0 y1 y2) (paymasterref16_Two.l0 (k + 1) y0 y1 y2))
  | 0 => fun _ _ _ r h => by simp [paymasterref16_Two.l0] at h
  | k + 1 => by
    have ih0 := paymasterref16_Two.mono_l k
    · intro y0 y1 y2
      unfold paymasterref16_Two.l0
      repeat' first
      | (with_reducible exact ih0 _ _ _)
      | (with_reducible exact LeO.refl _)
      | (with_reducible exact LeO.none _)
      | (with_reducible refine LeO.ite ?_ ?_)
      | (with_reducible refine LeO.bind ?_ (fun _ => ?_))
      | exact ih0 _ _ _
      | exact LeO.none _
      | refine LeO.ite ?_ ?_
      | refine LeO.bind ?_ (fun _ => ?_)
theorem paymasterref16_Two.mono : ∀ a0 k, LeO (paymasterref16_Two.f k a0) (paymasterref16_Two.f (k + 1) a0) := by
  intro a0 k
  have ih0 := paymasterref16_Two.mono_l k
  unfold paymasterref16_Two.f
  repeat' first
      | (with_reducible exact ih0 _ _ _)
      | (with_reducible exact LeO.refl _)
      | (with_reducible exact LeO.none _)
      | (with_reducible refine LeO.ite ?_ ?_)
      | (with_reducible refine LeO.bind ?_ (fun _ => ?_))
      | exact ih0 _ _ _
      | exact LeO.none _
      | refine LeO.ite ?_ ?_
      | refine LeO.bind ?_ (fun _ => ?_)
set_option maxHeartbeats 8000000 in
set_option maxRecDepth 100000 in
theorem paymasterref16_Two.calls (k : Nat) (a0 : Int) (r : Int) (w : World) (h : paymasterref16_Two.f k a0 = some r) :
    Calls Try.prog 28 #[.int .i64 a0] w fun e w' => e = .returned (.int .u64 r) ∧ Drawn0 w w' := by
  have H : (paymasterref16_Two.l0 k a0 1 0) = some r := h
  clear h
  have H' := Aside0.mk H
  clear H
  go_enter Try.func28, Try.ntmps28
  go_wp2
  go_loopg [3, 4] k (fun kq v3 v4 w' => ∃ (x3_1 : Int) (x4_1 : Int), v3 = .int .u64 x3_1 ∧ v4 = .int .i64 x4_1 ∧ Aside0 (paymasterref16_Two.l0 kq a0 x3_1 x4_1 = some r) ∧ Aside0 (kq ≤ k) ∧ Drawn0 w w')
  case atStart => exact ⟨(1), (0), (by first | rfl | (simp; done) | (simp [*]; done)), (by first | rfl | (simp; done) | (simp [*]; done)), H', ⟨Nat.le_refl _⟩, by repeat (first | exact Drawn0.refl _ | apply Drawn0.step)⟩
  case round =>
    clear H'
    obtain ⟨x3_1, x4_1, rfl, rfl, HA, HK1, ⟨m1, rfl⟩⟩ := hrel
    cases gk with
    | zero => exact absurd HA.out (by simp [paymasterref16_Two.l0])
    | succ k1 =>
      have H := HA.out
      clear HA
      simp only [paymasterref16_Two.l0] at H
      by_cases c2 : x4_1 < a0
      · rw [if_pos c2] at H
        have c2b0 : decide (x4_1 < a0) = true := decide_eq_true c2
        clear c2
        have H' := Aside0.mk H
        clear H
        go_wp2
        go_roundg k1
        case measure => have := HK1.out; omega
        case rel => exact ⟨(IntKind.u64.wrap (2 * x3_1)), (wrap64 (x4_1 + 1)), (by first | rfl | (simp; done) | (simp [*]; done)), (by first | rfl | (simp; done) | (simp [*]; done)), H', ⟨by have := HK1.out; omega⟩, by repeat (first | exact Drawn0.refl _ | apply Drawn0.step)⟩
      · rw [if_neg c2] at H
        have c2b0 : decide (x4_1 < a0) = false := decide_eq_false c2
        clear c2
        obtain rfl := Option.some.inj H
        go_wp2
        go_ret
        exact ⟨by first | rfl | (simp; done) | (simp [*]; done), by repeat (first | exact Drawn0.refl _ | apply Drawn0.step)⟩

end Go.Proofs.Ytaeaacdjiijooaa.Pr

-- Written by wip/tools/myprint.py (a print of the translation, turned). Not trusted: Lean checks it.
namespace Go.Proofs.Ytaeaacdjiijooaa.Pr
open Go.RowKit Go.Proofs.YtaeaacdjiijooaaW.PrintWords Go.Proofs.YtaeaacdjiijooaaW.PrintLast Go.Proofs.YtaeaacdjiijooaaW.PrintMore
attribute [local go_sem] max2_int min2_int max_two min_two max_three min_three max_four min_four   -- for this text's walks alone
set_option linter.unusedVariables false
set_option linter.unusedSimpArgs false

/-! ### cover_May: function 26 -/
def cover_May.f (a0 : Int) (a1 : Int) (a2 : Int) : Option (Bool) := (cover_high.f a0).bind fun t226 => (if t226 = true then (if a1 < a2 then (if 0 ≤ a0 then (some (decide (a2 ≤ (shl .u64 1 a0)))) else (none)) else (some false)) else (some false))
set_option maxHeartbeats 8000000 in
set_option maxRecDepth 100000 in
theorem cover_May.calls (a0 : Int) (a1 : Int) (a2 : Int) (r : Bool) (w : World) (h : cover_May.f a0 a1 a2 = some r) :
    Calls Try.prog 26 #[.int .i64 a0, .int .u64 a1, .int .u64 a2] w fun e w' => e = .returned (.bool r) ∧ Drawn0 w w' := by
  have H : ((cover_high.f a0).bind fun t226 => (if t226 = true then (if a1 < a2 then (if 0 ≤ a0 then (some (decide (a2 ≤ (shl .u64 1 a0)))) else (none)) else (some false)) else (some false))) = some r := h
  clear h
  replace H := Option.bind_eq_some_iff.mp H
  obtain ⟨t226, A40, H⟩ := H
  replace H : (if t226 = true then (if a1 < a2 then (if 0 ≤ a0 then (some (decide (a2 ≤ (shl .u64 1 a0)))) else (none)) else (some false)) else (some false)) = some r := H
  have A4 := Aside0.mk A40
  clear A40
  by_cases c5 : t226 = true
  · subst c5
    have H1 : (if a1 < a2 then (if 0 ≤ a0 then (some (decide (a2 ≤ (shl .u64 1 a0)))) else (none)) else (some false)) = some r := by rw [if_pos rfl] at H; exact H
    clear H
    have H := H1
    clear H1
    by_cases c6 : a1 < a2
    · rw [if_pos c6] at H
      have c6b0 : decide (a1 < a2) = true := decide_eq_true c6
      clear c6
      by_cases c7 : 0 ≤ a0
      · rw [if_pos c7] at H
        have c7b0 := eq_true c7
        have c7b1 : decide (0 ≤ a0) = true := decide_eq_true c7
        clear c7
        obtain ⟨ji8, hji8⟩ : ∃ j_ : Int, (shl .u64 1 a0) = j_ := ⟨_, rfl⟩
        replace H : (some (decide (a2 ≤ (ji8)))) = some r := by first | (rw [hji8] at H; exact H) | (simp only [hji8] at H ⊢; exact H)
        (try rw [hji8] at A4)
        have hji8_ : (IntKind.u64.wrap (1 * 2 ^ min a0.toNat 64)) = ji8 := hji8
        have hji8z : a0 ≤ 64 → (IntKind.u64.wrap (1 * 2 ^ a0.toNat)) = ji8 := shl_small hji8
        have hji8u : (IntKind.u64.wrap (2 ^ min a0.toNat 64)) = ji8 := by have h_ := hji8_; rw [Int.one_mul] at h_; exact h_
        have hji8v : a0 ≤ 64 → (IntKind.u64.wrap (2 ^ a0.toNat)) = ji8 := fun hle_ => by have h_ := hji8z hle_; rw [Int.one_mul] at h_; exact h_
        obtain rfl := Option.some.inj H
        go_enter Try.func26, Try.ntmps26
        go_wp2_with (first | ((with_reducible refine gate_callee (f := 31) rfl ?_); refine goesL_ (some 8) rfl rfl Try.func31 (by kernel_rfl) rfl #[.int .i64 a0] rfl (by (try simp only [List.map_toArray, List.map_cons, List.map_nil]); first | done | rfl | (simp only [List.length_drop, List.length_take]; rfl)) ?_; (with_reducible refine (cover_high.calls a0 true _ A4.out).mono ?_); rintro e w' ⟨rfl, ⟨nd, rfl⟩⟩; refine ⟨_, rfl, ?_⟩))
        go_ret
        exact ⟨by first | rfl | (simp; done) | (simp only [← hji8] <;> (first | rfl | simp)) | (simp [*]; done), by repeat (first | exact Drawn0.refl _ | apply Drawn0.step)⟩
      · rw [if_neg c7] at H
        exact absurd H (by simp)
    · rw [if_neg c6] at H
      have c6b0 : decide (a1 < a2) = false := decide_eq_false c6
      clear c6
      obtain rfl := Option.some.inj H
      go_enter Try.func26, Try.ntmps26
      go_wp2_with (first | ((with_reducible refine gate_callee (f := 31) rfl ?_); refine goesL_ (some 8) rfl rfl Try.func31 (by kernel_rfl) rfl #[.int .i64 a0] rfl (by (try simp only [List.map_toArray, List.map_cons, List.map_nil]); first | done | rfl | (simp only [List.length_drop, List.length_take]; rfl)) ?_; (with_reducible refine (cover_high.calls a0 true _ A4.out).mono ?_); rintro e w' ⟨rfl, ⟨nd, rfl⟩⟩; refine ⟨_, rfl, ?_⟩))
      go_ret
      exact ⟨by first | rfl | (simp; done) | (simp [*]; done), by repeat (first | exact Drawn0.refl _ | apply Drawn0.step)⟩
  · replace c5 := Bool.eq_false_iff.mpr c5
    subst c5
    have H1 : (some false) = some r := by rw [if_neg (show ¬ (false = true) by decide)] at H; exact H
    clear H
    have H := H1
    clear H1
    obtain rfl := Option.some.inj H
    go_enter Try.func26, Try.ntmps26
    go_wp2_with (first | ((with_reducible refine gate_callee (f := 31) rfl ?_); refine goesL_ (some 8) rfl rfl Try.func31 (by kernel_rfl) rfl #[.int .i64 a0] rfl (by (try simp only [List.map_toArray, List.map_cons, List.map_nil]); first | done | rfl | (simp only [List.length_drop, List.length_take]; rfl)) ?_; (with_reducible refine (cover_high.calls a0 false _ A4.out).mono ?_); rintro e w' ⟨rfl, ⟨nd, rfl⟩⟩; refine ⟨_, rfl, ?_⟩))
    go_ret
    exact ⟨by first | rfl | (simp; done) | (simp [*]; done), by repeat (first | exact Drawn0.refl _ | apply Drawn0.step)⟩

/-- THE ONE PURE STATEMENT of cover_May: yours. -/
def cover_May.Pure : Prop := ∀ (a0 : Int) (a1 : Int) (a2 : Int), (Lit.int .i64 a0).wf = true → (Lit.int .u64 a1).wf = true → (Lit.int .u64 a2).wf = true → cover_May.f a0 a1 a2 = some true
theorem cover_May.walk (P : cover_May.Pure) (a0 : Int) (a1 : Int) (a2 : Int) (w : World) (w0 : (Lit.int .i64 a0).wf = true) (w1 : (Lit.int .u64 a1).wf = true) (w2 : (Lit.int .u64 a2).wf = true) :
    Calls Try.prog 26 #[.int .i64 a0, .int .u64 a1, .int .u64 a2] w fun e w' => e = .returned (.bool true) ∧ Below w.heap.size w w' := by
  have h := P a0 a1 a2 w0 w1 w2
  refine (cover_May.calls a0 a1 a2 true w h).mono ?_
  rintro e w' ⟨rfl, hd⟩
  exact ⟨rfl, hd.below⟩

end Go.Proofs.Ytaeaacdjiijooaa.Pr

/- The library's calls of draw.whole, by their contracts: slices.ContainsFunc, slices.Clone, slices.SortFunc at spans. -/
namespace Go.Proofs.Ytaeaacdjiijooaa.Pr
open Go.RowKit Go.Proofs.YtaeaacdjiijooaaW.PrintWords Go.Proofs.YtaeaacdjiijooaaW.PrintLast Go.Proofs.YtaeaacdjiijooaaW.PrintMore
set_option linter.unusedVariables false
set_option linter.unusedSimpArgs false

attribute [local go_sem] max2_int min2_int max_two min_two max_three min_three max_four min_four   -- for this text's walks alone
/-! ### cmp_Compare_uint64: function 47 -/
def cmp_Compare_uint64.f (a0 : Int) (a1 : Int) : Option (Int) := (cmp_isNaN_uint64.f a0).bind fun t114 => ((cmp_isNaN_uint64.f a1).bind fun t115 => (if t114 = true then (if t115 = true then (some 0) else (some (-1))) else (if t115 = true then (some 1) else (if a0 < a1 then (some (-1)) else (if a0 > a1 then (some 1) else (some 0))))))
set_option maxHeartbeats 8000000 in
set_option maxRecDepth 100000 in
theorem cmp_Compare_uint64.calls (a0 : Int) (a1 : Int) (r : Int) (w : World) (h : cmp_Compare_uint64.f a0 a1 = some r) :
    Calls Try.prog 47 #[.int .u64 a0, .int .u64 a1] w fun e w' => e = .returned (.int .i64 r) ∧ Drawn0 w w' := by
  have H : ((cmp_isNaN_uint64.f a0).bind fun t114 => ((cmp_isNaN_uint64.f a1).bind fun t115 => (if t114 = true then (if t115 = true then (some 0) else (some (-1))) else (if t115 = true then (some 1) else (if a0 < a1 then (some (-1)) else (if a0 > a1 then (some 1) else (some 0))))))) = some r := h
  clear h
  replace H := Option.bind_eq_some_iff.mp H
  obtain ⟨t114, A30, H⟩ := H
  replace H : ((cmp_isNaN_uint64.f a1).bind fun t115 => (if t114 = true then (if t115 = true then (some 0) else (some (-1))) else (if t115 = true then (some 1) else (if a0 < a1 then (some (-1)) else (if a0 > a1 then (some 1) else (some 0)))))) = some r := H
  have A3 := Aside0.mk A30
  clear A30
  replace H := Option.bind_eq_some_iff.mp H
  obtain ⟨t115, A40, H⟩ := H
  replace H : (if t114 = true then (if t115 = true then (some 0) else (some (-1))) else (if t115 = true then (some 1) else (if a0 < a1 then (some (-1)) else (if a0 > a1 then (some 1) else (some 0))))) = some r := H
  have A4 := Aside0.mk A40
  clear A40
  by_cases c5 : t114 = true
  · subst c5
    have H1 : (if t115 = true then (some 0) else (some (-1))) = some r := by rw [if_pos rfl] at H; exact H
    clear H
    have H := H1
    clear H1
    by_cases c6 : t115 = true
    · subst c6
      have H1 : (some 0) = some r := by rw [if_pos rfl] at H; exact H
      clear H
      have H := H1
      clear H1
      obtain rfl := Option.some.inj H
      go_enter Try.func47, Try.ntmps47
      go_wp2_with (first | ((with_reducible refine gate_callee (f := 53) rfl ?_); refine goesL_ (some 8) rfl rfl Try.func53 (by kernel_rfl) rfl #[.int .u64 a0] rfl (by (try simp only [List.map_toArray, List.map_cons, List.map_nil]); first | done | rfl | (simp only [List.length_drop, List.length_take]; rfl)) ?_; (with_reducible refine (cmp_isNaN_uint64.calls a0 true _ A3.out).mono ?_); rintro e w' ⟨rfl, ⟨nd, rfl⟩⟩; refine ⟨_, rfl, ?_⟩) | ((with_reducible refine gate_callee (f := 53) rfl ?_); refine goesL_ (some 10) rfl rfl Try.func53 (by kernel_rfl) rfl #[.int .u64 a1] rfl (by (try simp only [List.map_toArray, List.map_cons, List.map_nil]); first | done | rfl | (simp only [List.length_drop, List.length_take]; rfl)) ?_; (with_reducible refine (cmp_isNaN_uint64.calls a1 true _ A4.out).mono ?_); rintro e w' ⟨rfl, ⟨nd, rfl⟩⟩; refine ⟨_, rfl, ?_⟩))
      go_ret
      exact ⟨by first | rfl | (simp; done) | (simp [*]; done), by repeat (first | exact Drawn0.refl _ | apply Drawn0.step)⟩
    · replace c6 := Bool.eq_false_iff.mpr c6
      subst c6
      have H1 : (some (-1)) = some r := by rw [if_neg (show ¬ (false = true) by decide)] at H; exact H
      clear H
      have H := H1
      clear H1
      obtain rfl := Option.some.inj H
      go_enter Try.func47, Try.ntmps47
      go_wp2_with (first | ((with_reducible refine gate_callee (f := 53) rfl ?_); refine goesL_ (some 8) rfl rfl Try.func53 (by kernel_rfl) rfl #[.int .u64 a0] rfl (by (try simp only [List.map_toArray, List.map_cons, List.map_nil]); first | done | rfl | (simp only [List.length_drop, List.length_take]; rfl)) ?_; (with_reducible refine (cmp_isNaN_uint64.calls a0 true _ A3.out).mono ?_); rintro e w' ⟨rfl, ⟨nd, rfl⟩⟩; refine ⟨_, rfl, ?_⟩) | ((with_reducible refine gate_callee (f := 53) rfl ?_); refine goesL_ (some 10) rfl rfl Try.func53 (by kernel_rfl) rfl #[.int .u64 a1] rfl (by (try simp only [List.map_toArray, List.map_cons, List.map_nil]); first | done | rfl | (simp only [List.length_drop, List.length_take]; rfl)) ?_; (with_reducible refine (cmp_isNaN_uint64.calls a1 false _ A4.out).mono ?_); rintro e w' ⟨rfl, ⟨nd, rfl⟩⟩; refine ⟨_, rfl, ?_⟩))
      go_ret
      exact ⟨by first | rfl | (simp; done) | (simp [*]; done), by repeat (first | exact Drawn0.refl _ | apply Drawn0.step)⟩
  · replace c5 := Bool.eq_false_iff.mpr c5
    subst c5
    have H1 : (if t115 = true then (some 1) else (if a0 < a1 then (some (-1)) else (if a0 > a1 then (some 1) else (some 0)))) = some r := by rw [if_neg (show ¬ (false = true) by decide)] at H; exact H
    clear H
    have H := H1
    clear H1
    by_cases c7 : t115 = true
    · subst c7
      have H1 : (some 1) = some r := by rw [if_pos rfl] at H; exact H
      clear H
      have H := H1
      clear H1
      obtain rfl := Option.some.inj H
      go_enter Try.func47, Try.ntmps47
      go_wp2_with (first | ((with_reducible refine gate_callee (f := 53) rfl ?_); refine goesL_ (some 8) rfl rfl Try.func53 (by kernel_rfl) rfl #[.int .u64 a0] rfl (by (try simp only [List.map_toArray, List.map_cons, List.map_nil]); first | done | rfl | (simp only [List.length_drop, List.length_take]; rfl)) ?_; (with_reducible refine (cmp_isNaN_uint64.calls a0 false _ A3.out).mono ?_); rintro e w' ⟨rfl, ⟨nd, rfl⟩⟩; refine ⟨_, rfl, ?_⟩) | ((with_reducible refine gate_callee (f := 53) rfl ?_); refine goesL_ (some 10) rfl rfl Try.func53 (by kernel_rfl) rfl #[.int .u64 a1] rfl (by (try simp only [List.map_toArray, List.map_cons, List.map_nil]); first | done | rfl | (simp only [List.length_drop, List.length_take]; rfl)) ?_; (with_reducible refine (cmp_isNaN_uint64.calls a1 true _ A4.out).mono ?_); rintro e w' ⟨rfl, ⟨nd, rfl⟩⟩; refine ⟨_, rfl, ?_⟩))
      go_ret
      exact ⟨by first | rfl | (simp; done) | (simp [*]; done), by repeat (first | exact Drawn0.refl _ | apply Drawn0.step)⟩
    · replace c7 := Bool.eq_false_iff.mpr c7
      subst c7
      have H1 : (if a0 < a1 then (some (-1)) else (if a0 > a1 then (some 1) else (some 0))) = some r := by rw [if_neg (show ¬ (false = true) by decide)] at H; exact H
      clear H
      have H := H1
      clear H1
      by_cases c8 : a0 < a1
      · rw [if_pos c8] at H
        have c8b0 : decide (a0 < a1) = true := decide_eq_true c8
        clear c8
        obtain rfl := Option.some.inj H
        go_enter Try.func47, Try.ntmps47
        go_wp2_with (first | ((with_reducible refine gate_callee (f := 53) rfl ?_); refine goesL_ (some 8) rfl rfl Try.func53 (by kernel_rfl) rfl #[.int .u64 a0] rfl (by (try simp only [List.map_toArray, List.map_cons, List.map_nil]); first | done | rfl | (simp only [List.length_drop, List.length_take]; rfl)) ?_; (with_reducible refine (cmp_isNaN_uint64.calls a0 false _ A3.out).mono ?_); rintro e w' ⟨rfl, ⟨nd, rfl⟩⟩; refine ⟨_, rfl, ?_⟩) | ((with_reducible refine gate_callee (f := 53) rfl ?_); refine goesL_ (some 10) rfl rfl Try.func53 (by kernel_rfl) rfl #[.int .u64 a1] rfl (by (try simp only [List.map_toArray, List.map_cons, List.map_nil]); first | done | rfl | (simp only [List.length_drop, List.length_take]; rfl)) ?_; (with_reducible refine (cmp_isNaN_uint64.calls a1 false _ A4.out).mono ?_); rintro e w' ⟨rfl, ⟨nd, rfl⟩⟩; refine ⟨_, rfl, ?_⟩))
        go_ret
        exact ⟨by first | rfl | (simp; done) | (simp [*]; done), by repeat (first | exact Drawn0.refl _ | apply Drawn0.step)⟩
      · rw [if_neg c8] at H
        have c8b0 : decide (a0 < a1) = false := decide_eq_false c8
        clear c8
        by_cases c9 : a0 > a1
        · rw [if_pos c9] at H
          have c9b0 : decide (a1 < a0) = true := decide_eq_true c9
          clear c9
          obtain rfl := Option.some.inj H
          go_enter Try.func47, Try.ntmps47
          go_wp2_with (first | ((with_reducible refine gate_callee (f := 53) rfl ?_); refine goesL_ (some 8) rfl rfl Try.func53 (by kernel_rfl) rfl #[.int .u64 a0] rfl (by (try simp only [List.map_toArray, List.map_cons, List.map_nil]); first | done | rfl | (simp only [List.length_drop, List.length_take]; rfl)) ?_; (with_reducible refine (cmp_isNaN_uint64.calls a0 false _ A3.out).mono ?_); rintro e w' ⟨rfl, ⟨nd, rfl⟩⟩; refine ⟨_, rfl, ?_⟩) | ((with_reducible refine gate_callee (f := 53) rfl ?_); refine goesL_ (some 10) rfl rfl Try.func53 (by kernel_rfl) rfl #[.int .u64 a1] rfl (by (try simp only [List.map_toArray, List.map_cons, List.map_nil]); first | done | rfl | (simp only [List.length_drop, List.length_take]; rfl)) ?_; (with_reducible refine (cmp_isNaN_uint64.calls a1 false _ A4.out).mono ?_); rintro e w' ⟨rfl, ⟨nd, rfl⟩⟩; refine ⟨_, rfl, ?_⟩))
          go_ret
          exact ⟨by first | rfl | (simp; done) | (simp [*]; done), by repeat (first | exact Drawn0.refl _ | apply Drawn0.step)⟩
        · rw [if_neg c9] at H
          have c9b0 : decide (a1 < a0) = false := decide_eq_false c9
          clear c9
          obtain rfl := Option.some.inj H
          go_enter Try.func47, Try.ntmps47
          go_wp2_with (first | ((with_reducible refine gate_callee (f := 53) rfl ?_); refine goesL_ (some 8) rfl rfl Try.func53 (by kernel_rfl) rfl #[.int .u64 a0] rfl (by (try simp only [List.map_toArray, List.map_cons, List.map_nil]); first | done | rfl | (simp only [List.length_drop, List.length_take]; rfl)) ?_; (with_reducible refine (cmp_isNaN_uint64.calls a0 false _ A3.out).mono ?_); rintro e w' ⟨rfl, ⟨nd, rfl⟩⟩; refine ⟨_, rfl, ?_⟩) | ((with_reducible refine gate_callee (f := 53) rfl ?_); refine goesL_ (some 10) rfl rfl Try.func53 (by kernel_rfl) rfl #[.int .u64 a1] rfl (by (try simp only [List.map_toArray, List.map_cons, List.map_nil]); first | done | rfl | (simp only [List.length_drop, List.length_take]; rfl)) ?_; (with_reducible refine (cmp_isNaN_uint64.calls a1 false _ A4.out).mono ?_); rintro e w' ⟨rfl, ⟨nd, rfl⟩⟩; refine ⟨_, rfl, ?_⟩))
          go_ret
          exact ⟨by first | rfl | (simp; done) | (simp [*]; done), by repeat (first | exact Drawn0.refl _ | apply Drawn0.step)⟩

/-! ### spans in memory -/
instance : Inhabited S29 := ⟨z29⟩
def encS (x : S29) : List Value := [.int .u64 x.f0, .int .u64 x.f1]
theorem encS_len (x : S29) : (encS x).length = 2 := rfl
theorem encS_one (x : S29) : ∀ v ∈ encS x, v.oneCell' = true := by
  intro v hv
  simp [encS] at hv
  rcases hv with rfl | rfl <;> rfl
theorem spans_open {w : World} {A : Option Addr} {l : List S29} (h : Kd.C k29 w A l.length l) (hl : 0 < l.length) :
    ∃ b off, A = some ⟨b, off, none⟩ ∧ b < w.heap.size ∧ ∀ j, j < l.length → ∀ i v, (encS l[j]!)[i]? = some v → w.cell? ⟨b, off + j * 2 + i, none⟩ = some v := by
  obtain ⟨ad, hA, hcell⟩ := h.2.2 hl
  have hc : ∀ j, j < l.length → ∀ i v, (encS l[j]!)[i]? = some v → w.cell? (ad.add (j * 2 + i)) = some v := by
    intro j hj i v hv
    obtain ⟨c, hcl, hR, hcc⟩ := hcell j l[j] (by simp [hj])
    obtain rfl := k29_open hR
    refine hcc i v ?_
    rw [getElem!_pos l j hj] at hv
    exact hv
  obtain ⟨b, off, sp⟩ := ad
  have h0 := hc 0 hl 0 _ rfl
  have hsp : sp = none ∧ b < w.heap.size := by
    unfold World.cell? at h0
    cases hb : w.heap[b]? with
    | none => simp [Addr.add, hb] at h0
    | some o =>
      have hlt := (Array.getElem?_eq_some_iff.1 hb).1
      refine ⟨?_, hlt⟩
      cases sp with
      | none => rfl
      | some s => cases o <;> simp [Addr.add, hb] at h0
  obtain ⟨rfl, hb⟩ := hsp
  refine ⟨b, off, hA, hb, fun j hj i v hv => ?_⟩
  have := hc j hj i v hv
  rw [Addr.add_lit] at this
  rwa [Nat.add_assoc]
theorem spans_nil (w : World) (X : Option Addr) : Kd.C k29 w X 0 [] := ⟨rfl, by decide, fun h => absurd h (by decide)⟩

/-- A row of the call's own, made from base on, that holds l. -/
def Row (base : Nat) (W : World) (X : Option Addr) (cap : Nat) (l : List S29) : Prop :=
  l.length ≤ cap ∧ (l = [] ∨ ∃ g, X = some ⟨g, 0, none⟩ ∧ base ≤ g ∧ g < W.heap.size ∧ Go.Sort.HoldsK encS 2 W g 0 l.toArray)
theorem flat_get (l : List S29) (t : Nat) (h : t < l.length * 2) : (Go.Sort.flatK encS 2 l.toArray)[t]! = (encS l[t / 2]!)[t % 2]! := by
  rw [Go.Sort.get_flatK _ _ _ _ (by simpa using h)]
  have e : l.toArray[t / 2]! = l[t / 2]! := by
    rw [getElem!_pos l _ (by omega), getElem!_pos l.toArray _ (by simp; omega)]; simp
  rw [e]
theorem holds_reads {W : World} {g : Nat} {l : List S29} (hn : l.length ≤ 2048) (h : Go.Sort.HoldsK encS 2 W g 0 l.toArray) : Kd.C k29 W (some ⟨g, 0, none⟩) l.length l := by
  refine ⟨rfl, by omega, fun _ => ⟨_, rfl, fun j p hp => ⟨[.int .u64 p.f0, .int .u64 p.f1], rfl, k29_mk W p, fun i u hu => ?_⟩⟩⟩
  obtain ⟨hj, hjp⟩ := List.getElem?_eq_some_iff.1 hp
  have hi : i < 2 := by have := (List.getElem?_eq_some_iff.1 hu).1; simpa using this
  have ht : j * 2 + i < l.length * 2 := by omega
  have hc := (h (j * 2 + i) (by simpa using ht)).1
  rw [flat_get l _ ht, show (j * 2 + i) / 2 = j by omega, show (j * 2 + i) % 2 = i by omega, getElem!_pos l j hj, hjp] at hc
  have e : (encS p)[i]! = u := by
    rw [getElem!_pos (encS p) i (by rw [encS_len]; exact hi)]
    exact (List.getElem?_eq_some_iff.1 hu).2
  rw [e, Nat.zero_add] at hc
  show W.cell? ((⟨g, 0, none⟩ : Addr).add (j * 2 + i)) = some u
  rw [Addr.add_lit, Nat.zero_add]
  exact hc

/-! ### slices.Clone -/
theorem infoSp : (Try.prog.info? 29).map (fun i => (i.zero, i.size, i.bytes)) = some (some (.agg #[.int .u64 0, .int .u64 0]), 2, 16) := by kernel_rfl
theorem flat_length (l : List S29) : (l.flatMap encS).length = l.length * 2 := by
  induction l with
  | nil => rfl
  | cons x xs ih => rw [List.flatMap_cons, List.length_append, ih, encS_len, List.length_cons]; omega
theorem flatMap_get (l : List S29) (j i : Nat) (hj : j < l.length) (hi : i < 2) : (l.flatMap encS)[j * 2 + i]? = (encS l[j]!)[i]? := by
  induction l generalizing j with
  | nil => simp at hj
  | cons x xs ih =>
    rw [List.flatMap_cons]
    cases j with
    | zero => rw [Nat.zero_mul, Nat.zero_add, List.getElem?_append_left (by rw [encS_len]; exact hi)]; rfl
    | succ j =>
      rw [List.getElem?_append_right (by rw [encS_len]; omega), encS_len, show (j + 1) * 2 + i - 2 = j * 2 + i by omega, ih j (by simpa using hj)]
      simp
set_option maxHeartbeats 4000000 in
set_option maxRecDepth 100000 in
theorem clone_calls (A : Option Addr) (c : Nat) (l : List S29) (w : World) (h : Kd.C k29 w A l.length l) (hn : l.length ≤ 2048) :
    Calls Try.prog 44 #[.slice A l.length c] w fun e w' => ∃ (X : Option Addr) (cap : Nat), e = .returned (.slice X l.length cap) ∧ Row w.heap.size w' X cap l ∧ Below w.heap.size w w' := by
  have q36 : ∀ (w : World) (a : Option Addr) (n c n' c' : Nat), (binOp .eql 36 (.slice a n c) (.slice none n' c')).run Try.prog w = .ok (.bool a.isNone) w := fun w a n c n' c' => Lib.run_eql_slice_nil w _ _ a n c n' c' Try.underlying36
  cases A with
  | none =>
    have hl : l = [] := by
      cases l with
      | nil => rfl
      | cons x xs => obtain ⟨b, off, hA, _⟩ := spans_open h (by simp); cases hA
    subst hl
    clear h
    go_enter Try.func44, Try.ntmps44
    go_wp2
    go_ret
    exact ⟨none, 0, rfl, ⟨Nat.le_refl _, .inl rfl⟩, Below.refl _ _⟩
  | some ad =>
    obtain ⟨i0, hi, hzz⟩ := Option.map_eq_some_iff.1 infoSp
    simp only [Prod.mk.injEq] at hzz
    obtain ⟨hz0, hz1, hz2⟩ := hzz
    have hc0 : ∀ j u, (l.flatMap encS)[j]? = some u → w.cell? (ad.add j) = some u := by
      intro j u hu
      have hj : j < l.length * 2 := by have := (List.getElem?_eq_some_iff.1 hu).1; rwa [flat_length] at this
      obtain ⟨b, off, hA, _, hc⟩ := spans_open h (by omega)
      cases hA
      have e : j = j / 2 * 2 + j % 2 := by omega
      rw [e, flatMap_get l (j / 2) (j % 2) (by omega) (by omega)] at hu
      have := hc (j / 2) (by omega) (j % 2) u hu
      rw [e, Addr.add_lit, ← Nat.add_assoc]
      exact this
    have h1 : ∀ u ∈ l.flatMap encS, u.oneCell' = true := by
      intro u hu
      obtain ⟨x, _, hx⟩ := List.mem_flatMap.1 hu
      exact encS_one x u hx
    have hl2 := flat_length l
    have HA := Aside0.mk hc0
    have H1 := Aside0.mk h1
    have HL := Aside0.mk hl2
    have HI := Aside0.mk hi
    have HZ0 := Aside0.mk hz0
    have HZ1 := Aside0.mk hz1
    have HZ2 := Aside0.mk hz2
    clear hc0 h1 hl2 h hi hz0 hz1 hz2
    obtain ⟨news, hnews⟩ : ∃ ns, ns = l.flatMap encS := ⟨_, rfl⟩
    rw [← hnews] at HA H1 HL
    have HN := Aside0.mk hnews
    clear hnews
    obtain ⟨n, hn0⟩ : ∃ n, n = l.length := ⟨_, rfl⟩
    rw [← hn0] at hn HL ⊢
    have HN0 := Aside0.mk hn0
    clear hn0
    go_enter Try.func44, Try.ntmps44
    go_wp2_with (at_builtin; refine wpList_append_own _ rfl _ _ 36 rfl w.heap.size 29 i0 _ 2 16 Try.underlying36 HI.out HZ0.out HZ1.out HZ2.out rfl (by decide) _ _ _ rfl (World.ownsRow_made w #[] 0 (Nat.le_refl _) (Nat.zero_le _) (by simp)) ad n c news rfl ?qc1 ?qc2 ?qc3 ?qc4 ?qc5 ?qc6 ?_)
    case qc1 => exact HL.out
    case qc2 =>
      intro j u hj
      exact Lib.cell?_alloc_some _ (HA.out j u hj)
    case qc3 => exact H1.out
    case qc4 => simp only [maxLen]; omega
    case qc5 => omega
    case qc6 => simp
    intro v' w1 hown hgrow hnil
    go_wp2
    go_ret
    have hn0 := HN0.out
    replace hown : w1.ownsRow w.heap.size 29 2 v' n news := by simpa using hown
    have hbel : Below w.heap.size w w1 := ((Below.refl _ w).alloc (Nat.le_refl _) _).grown hgrow (by simp) (by intro k hk; simp [Value.ownBlock] at hk; omega)
    obtain ⟨hlen, ⟨rfl, hn1⟩ | ⟨g, cap, cur, rfl, hg, hheap, hcap, hmax, hsz, htake⟩⟩ := hown
    · have hl0 : l = [] := List.length_eq_zero_iff.1 (by omega)
      subst hl0
      exact ⟨none, 0, (by rw [hn1]; rfl), ⟨Nat.le_refl _, .inl rfl⟩, hbel⟩
    · refine ⟨some ⟨g, 0, none⟩, cap, rfl, ⟨by omega, .inr ⟨g, rfl, hg, (Array.getElem?_eq_some_iff.1 hheap).1, fun t ht => ?_⟩⟩, hbel⟩
      have ht : t < l.length * 2 := by simpa using ht
      rw [flat_get l t ht]
      have hcell : cur[t]? = some ((encS l[t / 2]!)[t % 2]!) := by
        have e1 : (cur.toList.take (n * 2))[t]? = cur[t]? := by
          rw [List.getElem?_take_of_lt (by omega)]; simp
        rw [← e1, htake, HN.out]
        have e : t = t / 2 * 2 + t % 2 := by omega
        have e2 := flatMap_get l (t / 2) (t % 2) (by omega) (by omega)
        rw [← e] at e2
        rw [e2, getElem!_pos (encS l[t / 2]!) (t % 2) (by rw [encS_len]; omega), List.getElem?_eq_getElem]
      constructor
      · simp [World.cell?, hheap, hcell]
      · simp [World.frozen?, hheap]

/-! ### slices.SortFunc -/
def spCmp (x y : S29) : Int := if x.f0 < y.f0 then -1 else if x.f0 > y.f0 then 1 else 0
theorem ltSp (x y : S29) : ltOf spCmp x y = decide (x.f0 < y.f0) := by
  unfold ltOf spCmp
  by_cases h1 : x.f0 < y.f0
  · simp [h1]
  · by_cases h2 : x.f0 > y.f0 <;> simp [h1, h2]
theorem swoSp : Go.Sort.SWO (ltOf spCmp) where
  irrefl x := by rw [ltSp]; simp
  trans x y z h1 h2 := by rw [ltSp] at *; simp at *; omega
  ntrans x y z h1 h2 := by rw [ltSp] at *; simp at *; omega
def spSort (l : List S29) : List S29 := (Go.Sort.pdq (ltOf spCmp) l.toArray 0 l.length (Lib.bitLen l.length) true true).toList
theorem spSort_sorts (l : List S29) : (spSort l).length = l.length ∧ (spSort l).Perm l ∧ (spSort l).Pairwise (fun x y => x.f0 ≤ y.f0) := by
  have h := Go.Sort.pdq_sorts (ltOf spCmp) swoSp l.toArray 0 l.length (Lib.bitLen l.length) true true (Nat.zero_le _) (by simp) (Or.inl rfl)
  obtain ⟨⟨h1, _, h3⟩, hs⟩ := h
  have e0 : (Go.Sort.pdq (ltOf spCmp) l.toArray 0 l.length (Lib.bitLen l.length) true true) = (spSort l).toArray := by simp [spSort]
  rw [e0] at h1 h3 hs
  have hlen : (spSort l).length = l.length := by simpa using h1
  refine ⟨hlen, ?_, ?_⟩
  · have e1 : ((spSort l).toArray.extract 0 l.length).toList = spSort l := by simp [← hlen]
    have e2 : (l.toArray.extract 0 l.length).toList = l := by simp
    rw [e1, e2] at h3
    exact h3
  · rw [List.pairwise_iff_getElem]
    intro i j hi hj hij
    have := hs i j (Nat.zero_le _) hij (by omega)
    rw [ltSp, getElem!_pos _ _ (by simpa using hj), getElem!_pos _ _ (by simpa using hi)] at this
    simpa using this
theorem cmpSp (x y : S29) : cmp_Compare_uint64.f x.f0 y.f0 = some (spCmp x y) := by
  simp only [cmp_Compare_uint64.f, cmp_isNaN_uint64.f, spCmp, Option.bind_some]
  simp only [bne_self_eq_false, Bool.false_eq_true, if_false]
  split <;> (try rfl)
  split <;> rfl
set_option maxHeartbeats 1000000 in
theorem closure46 (x y : S29) (W : World) : Calls Try.prog 46 #[.agg #[.int .u64 x.f0, .int .u64 x.f1], .agg #[.int .u64 y.f0, .int .u64 y.f1]] W fun e w' => e = .returned (.int .i64 (spCmp x y)) ∧ ∃ q os', w' = Go.Sort.grow (W.drewN q) os' := by
  have hcon := fun W' => cmp_Compare_uint64.calls x.f0 y.f0 _ W' (cmpSp x y)
  generalize spCmp x y = r at hcon ⊢
  go_enter Try.func46, Try.ntmps46
  go_wp2_with (go_at_call 47; refine (hcon _).mono ?_; rintro e w' ⟨rfl, ⟨nd, rfl⟩⟩)
  go_ret
  exact ⟨rfl, nd, _, by rw [Go.Sort.alloc_eq_grow, Go.Sort.alloc_eq_grow, Go.Sort.grow_grow]; rfl⟩
theorem below_sort {base : Nat} {a W : World} {g m : Nat} {os : Array Obj} {d : Array S29} (h : Below base a W) (hg : base ≤ g) (hB : base ≤ W.heap.size) : Below base a (sortWorldK encS 2 W g 0 m d os) := by
  refine h.trans ⟨rfl, rfl, rfl, ?_, fun k hk => ?_⟩
  · show W.heap.size ≤ ((W.heap.modify g _) ++ os).size
    rw [Array.size_append, Array.size_modify]; omega
  · show ((W.heap.modify g _) ++ os)[k]? = W.heap[k]?
    rw [Array.getElem?_append_left (by rw [Array.size_modify]; omega), Array.getElem?_modify, if_neg (by omega)]
set_option maxHeartbeats 4000000 in
theorem sort_calls (X : Option Addr) (cap : Nat) (l : List S29) (base : Nat) (W : World) (hr : Row base W X cap l) (hn : l.length ≤ 2048) (hB : base ≤ W.heap.size) :
    Calls Try.prog 45 #[.slice X l.length cap, .func (.func 46) #[] #[]] W fun e w' => e = .returned (.tuple #[]) ∧ Kd.C k29 w' X l.length (spSort l) ∧ Below base W w' := by
  obtain ⟨hs1, _, _⟩ := spSort_sorts l
  rcases hr.2 with rfl | ⟨g, rfl, hb, hg, hH⟩
  · have hcon := AnyF.slices_SortFunc_none Try.sortSp X cap (.func (.func 46) #[] #[]) W
    have e : spSort [] = [] := List.length_eq_zero_iff.1 hs1
    rw [e]
    exact hcon.mono fun e w' ⟨he, hw⟩ => ⟨he, spans_nil _ _, by rw [hw]; exact Below.refl _ _⟩
  · have eg : ∀ args w, (callFunc 46 args).run Try.prog w = .ok (.enter 46 args) w := enters_of Try.func46 (by kernel_rfl) rfl
    have hcon := AnyQ.slices_SortFunc_eq Try.sortSp 2 Try.isAgg29 Try.sizeOf29 encS encS_len encS_one spCmp swoSp 46 #[] g 0 cap l.toArray W eg (fun m os dk _ x y => closure46 x y _) hH hg (by simp; omega)
    rw [List.size_toArray] at hcon
    refine hcon.mono fun e w' ⟨he, n, os, hw⟩ => ⟨he, ?_, ?_⟩
    · have e0 : (Go.Sort.pdq (ltOf spCmp) l.toArray 0 l.length (Lib.bitLen l.length) true true) = (spSort l).toArray := by simp [spSort]
      rw [e0] at hw
      have hh := holdsK_sortWorldK_c encS 2 W g 0 l.toArray (spSort l).toArray n os hH hg (by simpa using hs1)
      rw [← hw] at hh
      have := holds_reads (by omega) hh
      rw [hs1] at this
      exact this
    · rw [hw]; exact below_sort (Below.refl _ _) hb hB

/-! ### slices.ContainsFunc -/
def mayB (h : Int) (x : S29) : Bool := cover_May.f h x.f0 x.f1 == some true
theorem may_some (h : Int) (hh : 0 ≤ h ∧ h ≤ 63) (x : S29) : cover_May.f h x.f0 x.f1 = some (mayB h x) := by
  have hh1 : cover_high.f h = some true := by unfold cover_high.f; rw [if_pos hh.1]; simp [hh.2]
  have : ∃ b, cover_May.f h x.f0 x.f1 = some b := by
    unfold cover_May.f
    rw [hh1]
    simp only [Option.bind_some, if_true]
    rw [if_pos hh.1]
    split
    · exact ⟨_, rfl⟩
    · exact ⟨_, rfl⟩
  obtain ⟨b, hb⟩ := this
  unfold mayB
  rw [hb]
  cases b <;> rfl
set_option maxHeartbeats 1000000 in
theorem pred43 (h : Int) (hh : 0 ≤ h ∧ h ≤ 63) (B : Nat) (w : World) (hB : B < w.heap.size) (hcell : w.cell? ⟨B, 0, none⟩ = some (.int .i64 h)) :
    PredBelow Try.prog 43 #[.pointer (some ⟨B, 0, none⟩)] (fun x => .agg (encS x).toArray) (fun x => !mayB h x) w := fun W x hb => by
  have hc : W.cell? ⟨B, 0, none⟩ = some (.int .i64 h) := (hb.cell (p := ⟨B, 0, none⟩) hB).trans hcell
  have hBW : B < W.heap.size := Nat.lt_of_lt_of_le hB hb.size
  have hne : B ≠ W.heap.size := by omega
  have hcon := fun W' => cover_May.calls h x.f0 x.f1 _ W' (may_some h hh x)
  show Calls Try.prog 43 #[.agg #[.int .u64 x.f0, .int .u64 x.f1], .pointer (some ⟨B, 0, none⟩)] W fun e w' => e = .returned (.bool (!mayB h x)) ∧ Below w.heap.size w w'
  generalize mayB h x = r at hcon ⊢
  go_enter Try.func43, Try.ntmps43
  go_wp2_with (go_at_call 26; refine (hcon _).mono ?_; rintro e w' ⟨rfl, ⟨nd, rfl⟩⟩)
  go_ret
  exact ⟨rfl, pw_below_drewN (hb.alloc hb.size _) nd⟩
set_option maxHeartbeats 1000000 in
theorem index_none (X : Option Addr) (cap : Nat) (fv : Value) (w : World) :
    Calls Try.prog 50 #[.slice X 0 cap, fv] w fun e w' => e = .returned (.int .i64 (-1)) ∧ w' = w := by
  go_enter Try.func50, Try.ntmps50
  go_wp2
  refine wp_loop_rounds 1 ?_
  rw [rounds_succ]
  go_wp2
  go_ret
  exact ⟨rfl, rfl⟩
set_option maxHeartbeats 1000000 in
theorem contains_calls (h : Int) (hh : 0 ≤ h ∧ h ≤ 63) (A : Option Addr) (c : Nat) (l : List S29) (B : Nat) (w : World) (hr : Kd.C k29 w A l.length l) (hn : l.length ≤ 2048) (hB : B < w.heap.size) (hcell : w.cell? ⟨B, 0, none⟩ = some (.int .i64 h)) :
    Calls Try.prog 42 #[.slice A l.length c, .func (.func 43) #[] #[.pointer (some ⟨B, 0, none⟩)]] w fun e w' => e = .returned (.bool (l.any fun x => !mayB h x)) ∧ Below w.heap.size w w' := by
  by_cases hl : 0 < l.length
  · obtain ⟨b, off, rfl, hb, hc⟩ := spans_open hr hl
    have eg : ∀ args w, (callFunc 43 args).run Try.prog w = .ok (.enter 43 args) w := enters_of Try.func43 (by kernel_rfl) rfl
    have hcon := AnyQ.slices_ContainsFunc Try.containsSp 2 Try.isAgg29 Try.sizeOf29 encS encS_len (fun x => !mayB h x) 43 #[.pointer (some ⟨B, 0, none⟩)] eg b off l.length c l w (pred43 h hh B w hB hcell) (Nat.le_refl _) (by omega) hb hc
    rw [List.take_length] at hcon
    exact hcon
  · have hl0 : l = [] := List.length_eq_zero_iff.1 (by omega)
    subst hl0
    have hcon := fun W => index_none A c (.func (.func 43) #[] #[.pointer (some ⟨B, 0, none⟩)]) W
    clear hr hcell
    go_enter Try.func42, Try.ntmps42
    go_wp2_with (go_at_call 50; refine (hcon _).mono ?_; rintro e w' ⟨rfl, rfl⟩)
    go_ret
    exact ⟨rfl, Below.refl _ _⟩
end Go.Proofs.Ytaeaacdjiijooaa.Pr

/- The contract of draw.whole, in the print's form. -/
namespace Go.Proofs.Ytaeaacdjiijooaa.Pr
open Go.RowKit Go.Proofs.YtaeaacdjiijooaaW.PrintWords Go.Proofs.YtaeaacdjiijooaaW.PrintLast Go.Proofs.YtaeaacdjiijooaaW.PrintMore
attribute [local go_sem] max2_int min2_int max_two min_two max_three min_three max_four min_four
set_option linter.unusedVariables false
set_option linter.unusedSimpArgs false

/-! ### draw_merge: function 37 -/
def draw_merge.l0 : Nat → List (S29) → List (S29) → Int → Int → Option ((List (S29)) × Int)
  | 0, _, _, _, _ => none
  | k + 1, x7, x27, x28, x29 => if x29 < x28 then (if 0 ≤ x29 then (if x29 < (x27.length : Int) then (if (wrap64 ((x7.length : Int) - 1)) ≥ 0 then (if 0 ≤ (wrap64 ((x7.length : Int) - 1)) then (if (wrap64 ((x7.length : Int) - 1)) < (x7.length : Int) then (if ((rd_T29 x27 x29).f0) ≤ ((rd_T29 x7 (wrap64 ((x7.length : Int) - 1))).f1) then (draw_merge.l0 k (x7.set ((wrap64 ((x7.length : Int) - 1)) : Int).toNat (⟨(rd_T29 x7 (wrap64 ((x7.length : Int) - 1))).f0, mx ((rd_T29 x7 (wrap64 ((x7.length : Int) - 1))).f1) ((rd_T29 x27 x29).f1)⟩ : S29)) x27 x28 (wrap64 (x29 + 1))) else (if x7.length < 8796093022208 then (draw_merge.l0 k (x7 ++ [(⟨(rd_T29 x27 x29).f0, (rd_T29 x27 x29).f1⟩ : S29)]) x27 x28 (wrap64 (x29 + 1))) else (none))) else (none)) else (none)) else (if x7.length < 8796093022208 then (draw_merge.l0 k (x7 ++ [(⟨(rd_T29 x27 x29).f0, (rd_T29 x27 x29).f1⟩ : S29)]) x27 x28 (wrap64 (x29 + 1))) else (none))) else (none)) else (none)) else (some (x7, 0))
theorem draw_merge.mono_l : ∀ k, (∀ y0 y1 y2 y3, LeO (draw_merge.l0 k y0 y1 y2 y3) (draw_merge.l0 (k + 1) y0 y1 y2 y3))
  | 0 => fun _ _ _ _ r h => by simp [draw_merge.l0] at h
  | k + 1 => by
    have ih0 := draw_merge.mono_l k
    · intro y0 y1 y2 y3
      unfold draw_merge.l0
      repeat' first
      | (with_reducible exact ih0 _ _ _ _)
      | (with_reducible exact LeO.refl _)
      | (with_reducible exact LeO.none _)
      | (with_reducible refine LeO.ite ?_ ?_)
      | (with_reducible refine LeO.bind ?_ (fun _ => ?_))
      | exact ih0 _ _ _ _
      | exact LeO.none _
      | refine LeO.ite ?_ ?_
      | refine LeO.bind ?_ (fun _ => ?_)
def draw_merge.T14 : Bool × List (List Nat × List Nat) := (true, [([], []), ([0], [0]), ([1], [1]), ([2], [2]), ([3, 2], [2, 3]), ([2], [2]), ([2], [2]), ([5, 6, 2], [2, 5, 6]), ([7, 2], [2, 7]), ([8, 2], [2, 8]), ([4, 9, 2], [2, 4, 9]), ([2, 10], [2, 10])])
def draw_merge.B14 : List Nat := [0, 1, 3, 7, 15, 7, 7, 103, 231, 487, 1023, 2047]
theorem draw_merge.tab14 : rtab .any (opsOf Try.f37 14) = draw_merge.T14 := by kernel_rfl
theorem draw_merge.bits14 : waitsOk draw_merge.T14.2 draw_merge.B14 = true := by kernel_rfl
def draw_merge.T15 : Bool × List (List Nat × List Nat) := (true, [([], []), ([], []), ([], []), ([], []), ([2, 3], [2, 3]), ([4], [4]), ([5], [5]), ([], []), ([7], [7]), ([6, 8], [6, 8]), ([0, 1, 0, 1, 2, 3, 4, 5, 6, 7, 8, 9], [0, 1]), ([10, 0, 1, 2, 3, 4, 5, 6, 7, 8, 9], [10]), ([11, 9, 0, 1, 2, 3, 4, 5, 6, 7, 8, 9], [9, 11])])
def draw_merge.B15 : List Nat := [0, 0, 0, 0, 12, 28, 60, 0, 128, 508, 1023, 2047, 4095]
theorem draw_merge.tab15 : rtab .any (opsOf Try.f37 15) = draw_merge.T15 := by kernel_rfl
theorem draw_merge.bits15 : waitsOk draw_merge.T15.2 draw_merge.B15 = true := by kernel_rfl
def draw_whole.f (k : Nat) (a0 : Int) (l1 : List S29) : Option (List S29 × Int) :=
  if 0 ≤ a0 ∧ a0 ≤ 63 then (if l1.length ≤ 2048 then (if (l1.any fun x => !mayB a0 x) = true then some ([], 200) else draw_merge.l0 k [] (spSort l1) ((spSort l1).length : Int) 0) else some ([], 3)) else some ([], 120)
theorem draw_whole.mono : ∀ a0 a1 k, LeO (draw_whole.f k a0 a1) (draw_whole.f (k + 1) a0 a1) := by
  intro a0 a1 k
  unfold draw_whole.f
  refine LeO.ite (LeO.ite (LeO.ite (LeO.refl _) (draw_merge.mono_l k _ _ _ _)) (LeO.refl _)) (LeO.refl _)
set_option maxHeartbeats 16000000 in
set_option maxRecDepth 100000 in
theorem draw_whole.calls (k : Nat) (a0 : Int) (A1 : Option Addr) (c1 : Nat) (l1 : List (S29)) (r1 : List (S29)) (r2 : Int) (w : World) (hr1 : Kd.C k29 w A1 l1.length l1) (hc1 : l1.length ≤ c1) (h : draw_whole.f k a0 l1 = some (r1, r2)) :
    Calls Try.prog 37 #[.int .i64 a0, .slice A1 l1.length c1] w fun e w' => ∃ v0_ : Value, e = .returned (.tuple #[v0_, .int .i64 r2]) ∧ Kd.R k29 29 w' w.heap.size (fun _ => True) v0_ r1 ∧ Below w.heap.size w w' := by
  have hu29 := Try.underlying29
  have hhigh : ∀ r, draw_high.f a0 = some r → ∀ W, W = w.alloc (.cells #[.int .i64 a0] 3) → Calls Try.prog 27 #[.int .i64 a0] W fun e w' => e = .returned (.bool r) ∧ Aside0 (Kd.C k29 w' A1 l1.length l1) ∧ Aside0 (w'.cell? ⟨w.heap.size, 0, none⟩ = some (.int .i64 a0)) ∧ Aside0 (Below w.heap.size w w') ∧ Aside0 (w.heap.size < w'.heap.size) := fun r hr W hW => (draw_high.calls a0 r W hr).mono fun e w' ⟨he, ⟨nd, hd⟩⟩ => by
    subst hd hW
    refine ⟨he, ⟨Kd.C_drewN (Kd.C_alloc hr1 _) nd⟩, ⟨?_⟩, ⟨pw_below_drewN (below_alloc (Below.refl _ _) _) nd⟩, ⟨?_⟩⟩
    · show (w.alloc (.cells #[.int .i64 a0] 3)).cell? ⟨w.heap.size, 0, none⟩ = _
      simp
    · show w.heap.size < (w.alloc (.cells #[.int .i64 a0] 3)).heap.size
      simp
  by_cases ch : 0 ≤ a0 ∧ a0 ≤ 63
  · have hh : draw_high.f a0 = some true := by unfold draw_high.f; rw [if_pos ch.1]; simp [ch.2]
    have hhi := hhigh true hh
    clear hhigh
    by_cases cl : l1.length ≤ 2048
    · have cd : decide ((2048 : Int) < (l1.length : Int)) = false := decide_eq_false (by omega)
      have hcont : ∀ W, Aside0 (Kd.C k29 W A1 l1.length l1) → Aside0 (W.cell? ⟨w.heap.size, 0, none⟩ = some (.int .i64 a0)) → Aside0 (Below w.heap.size w W) → Aside0 (w.heap.size < W.heap.size) →
          Calls Try.prog 42 #[.slice A1 l1.length c1, .func (.func 43) #[] #[.pointer (some ⟨w.heap.size, 0, none⟩)]] W fun e w' => e = .returned (.bool (l1.any fun x => !mayB a0 x)) ∧ Aside0 (Kd.C k29 w' A1 l1.length l1) ∧ Aside0 (Below w.heap.size w w') := fun W h1 h2 h3 h4 =>
        (contains_calls a0 ch A1 c1 l1 w.heap.size W h1.out cl h4.out h2.out).mono fun e w' ⟨he, hb⟩ => ⟨he, ⟨Kd.C_below h1.out hb⟩, ⟨h3.out.trans (hb.mono (Nat.le_of_lt h4.out))⟩⟩
      by_cases cb : (l1.any fun x => !mayB a0 x) = true
      · rw [draw_whole.f, if_pos ch, if_pos cl, if_pos cb] at h
        simp only [Option.some.injEq, Prod.mk.injEq] at h
        obtain ⟨rfl, rfl⟩ := h
        rw [cb] at hcont
        clear hr1
        go_enter Try.func37, Try.ntmps37
        go_wp2
        go_step3
        go_wp2_with (first | (go_at_call 27; (with_reducible refine (hhi _ rfl).mono ?_); rintro e w1 ⟨rfl, HR1, HX1, HB1, HS1⟩) | (go_at_call 42; (with_reducible refine (hcont _ HR1 HX1 HB1 HS1).mono ?_); rintro e w2 ⟨rfl, HR2, HB2⟩))
        (try rw [Exit.noGoto_ret])
        go_ret2
        exact ⟨_, rfl, Kd.R_nil _ _ _ _ _, HB2.out⟩
      · have cb0 : (l1.any fun x => !mayB a0 x) = false := by simpa using cb
        rw [draw_whole.f, if_pos ch, if_pos cl, if_neg cb] at h
        rw [cb0] at hcont
        obtain ⟨hs1, _, _⟩ := spSort_sorts l1
        have hclone : ∀ W, Aside0 (Kd.C k29 W A1 l1.length l1) → Aside0 (Below w.heap.size w W) →
            Calls Try.prog 44 #[.slice A1 l1.length c1] W fun e w' => ∃ X cap, e = .returned (.slice X (spSort l1).length cap) ∧ Aside0 (Row w.heap.size w' X cap l1) ∧ Aside0 (Below w.heap.size w w') := fun W h1 h2 =>
          (clone_calls A1 c1 l1 W h1.out cl).mono fun e w' ⟨X, cap, he, hr, hb⟩ => ⟨X, cap, by rw [hs1]; exact he, ⟨⟨hr.1, hr.2.imp id fun ⟨g, e1, e2, e3, e4⟩ => ⟨g, e1, Nat.le_trans h2.out.size e2, e3, e4⟩⟩⟩, ⟨h2.out.trans (hb.mono h2.out.size)⟩⟩
        have hsort : ∀ W X cap, Aside0 (Row w.heap.size W X cap l1) → Aside0 (Below w.heap.size w W) →
            Calls Try.prog 45 #[.slice X (spSort l1).length cap, .func (.func 46) #[] #[]] W fun e w' => e = .returned (.tuple #[]) ∧ Aside0 (Kd.C k29 w' X (spSort l1).length (spSort l1)) ∧ Aside0 ((spSort l1).length ≤ cap) ∧ Aside0 (Below w.heap.size w w') := fun W X cap h1 h2 => by
          have := sort_calls X cap l1 w.heap.size W h1.out cl h2.out.size
          rw [← hs1] at this
          exact this.mono fun e w' ⟨he, hr, hb⟩ => ⟨he, ⟨hr⟩, ⟨by rw [hs1]; exact h1.out.1⟩, ⟨h2.out.trans hb⟩⟩
        generalize spSort l1 = l2 at h hclone hsort
        clear hr1
        clear cb cb0 hs1 hh
        have H' := Aside0.mk h
        clear h
        go_enter Try.func37, Try.ntmps37
        go_wp2
        go_step3
        go_wp2_with (first | (go_at_call 27; (with_reducible refine (hhi _ rfl).mono ?_); rintro e w1 ⟨rfl, HR1, HX1, HB1, HS1⟩) | (go_at_call 42; (with_reducible refine (hcont _ HR1 HX1 HB1 HS1).mono ?_); rintro e w2 ⟨rfl, HR2, HB2⟩) | (go_at_call 44; (with_reducible refine (hclone _ HR2 HB2).mono ?_); rintro e w3 ⟨X, cap, rfl, HW3, HB3⟩) | (go_at_call 45; (with_reducible refine (hsort _ _ _ HW3 HB3).mono ?_); rintro e w4 ⟨rfl, HR1, HC1, HB4⟩))
        go_step3
        go_wp2
        have HB := Aside0.mk (Below.refl w4.heap.size w4)
        clear hhi hcont hclone hsort HW3 HB3 HR2 HB2 HX1 HB1 HS1
        go_loopg [7, 29] k (fun kq v7 v29 w' => ∃ (x7_1 : List (S29)) (x29_1 : Int), v29 = .int .i64 x29_1 ∧ Aside0 (draw_merge.l0 kq x7_1 l2 (l2.length : Int) x29_1 = some (r1, r2)) ∧ Aside0 (kq ≤ k) ∧ Aside0 (Kd.R k29 29 w' w4.heap.size (fun _ => True) v7 x7_1) ∧ Aside0 (Below w4.heap.size w4 w'))
        case atStart => exact ⟨(([] : List (S29))), (0), (by first | rfl | (simp; done) | (simp [*]; done)), H', ⟨Nat.le_refl _⟩, ⟨by first | exact Kd.R_nil _ _ _ _ _ | exact Kd.N_nil _ _ _ _ _ | exact Kd.V_nil _ _ _ _ _ | exact Kd.Q_nil _ _ _ _ _ | exact Kd.S_nil _ _ _ _ _⟩, ⟨by repeat (first | (with_reducible first | exact HB.out | apply below_alloc | apply pw_below_drewN | apply below_drew1) | exact HB.out)⟩⟩
        case round =>
          clear H'
          try clear c1
          try clear p2
          obtain ⟨x7_1, x29_1, rfl, HA, HK1, HO_7, HB⟩ := hrel
          cases gk with
          | zero => exact absurd HA.out (by simp [draw_merge.l0])
          | succ k1 =>
            have H := HA.out
            clear HA
            simp only [draw_merge.l0] at H
            by_cases c3 : x29_1 < (l2.length : Int)
            · rw [if_pos c3] at H
              have c3b0 : decide (x29_1 < (l2.length : Int)) = true := decide_eq_true c3
              clear c3
              by_cases c4 : 0 ≤ x29_1
              · rw [if_pos c4] at H
                have c4b0 : decide (0 ≤ x29_1) = true := decide_eq_true c4
                clear c4
                by_cases c5 : x29_1 < (l2.length : Int)
                · rw [if_pos c5] at H
                  have c5b0 : decide (x29_1 < (l2.length : Int)) = true := decide_eq_true c5
                  clear c5
                  by_cases c6 : (wrap64 ((x7_1.length : Int) - 1)) ≥ 0
                  · rw [if_pos c6] at H
                    have c6b0 : decide (0 ≤ (wrap64 ((x7_1.length : Int) - 1))) = true := decide_eq_true c6
                    clear c6
                    obtain ⟨ji7, hji7⟩ : ∃ j_ : Int, (wrap64 ((x7_1.length : Int) - 1)) = j_ := ⟨_, rfl⟩
                    replace H : (if 0 ≤ (ji7) then (if (ji7) < (x7_1.length : Int) then (if ((rd_T29 l2 x29_1).f0) ≤ ((rd_T29 x7_1 (ji7)).f1) then (draw_merge.l0 k1 (x7_1.set ((ji7) : Int).toNat (⟨(rd_T29 x7_1 (ji7)).f0, mx ((rd_T29 x7_1 (ji7)).f1) ((rd_T29 l2 x29_1).f1)⟩ : S29)) l2 (l2.length : Int) (wrap64 (x29_1 + 1))) else (if x7_1.length < 8796093022208 then (draw_merge.l0 k1 (x7_1 ++ [(⟨(rd_T29 l2 x29_1).f0, (rd_T29 l2 x29_1).f1⟩ : S29)]) l2 (l2.length : Int) (wrap64 (x29_1 + 1))) else (none))) else (none)) else (none)) = some (r1, r2) := by first | (rw [hji7] at H; exact H) | (simp only [hji7] at H ⊢; exact H)
                    (try rw [hji7] at c6b0)
                    have hji7w : (IntKind.i64.wrap ((x7_1.length : Int) - 1)) = ji7 := (i64_w _).trans hji7
                    by_cases c8 : 0 ≤ (ji7)
                    · rw [if_pos c8] at H
                      have c8b0 : decide (0 ≤ (ji7)) = true := decide_eq_true c8
                      clear c8
                      by_cases c9 : (ji7) < (x7_1.length : Int)
                      · rw [if_pos c9] at H
                        have c9b0 : decide ((ji7) < (x7_1.length : Int)) = true := decide_eq_true c9
                        clear c9
                        by_cases c10 : ((rd_T29 l2 x29_1).f0) ≤ ((rd_T29 x7_1 (ji7)).f1)
                        · rw [if_pos c10] at H
                          have c10b0 : decide (((rd_T29 l2 x29_1).f0) ≤ ((rd_T29 x7_1 (ji7)).f1)) = true := decide_eq_true c10
                          clear c10
                          obtain ⟨ji11, hji11⟩ : ∃ j_ : Int, (mx ((rd_T29 x7_1 (ji7)).f1) ((rd_T29 l2 x29_1).f1)) = j_ := ⟨_, rfl⟩
                          replace H : (draw_merge.l0 k1 (x7_1.set ((ji7) : Int).toNat (⟨(rd_T29 x7_1 (ji7)).f0, ji11⟩ : S29)) l2 (l2.length : Int) (wrap64 (x29_1 + 1))) = some (r1, r2) := by first | (rw [hji11] at H; exact H) | (simp only [hji11] at H ⊢; exact H)
                          have hji11_ : (if ((rd_T29 x7_1 (ji7)).f1) < ((rd_T29 l2 x29_1).f1) then ((rd_T29 l2 x29_1).f1) else ((rd_T29 x7_1 (ji7)).f1)) = ji11 := hji11
                          obtain ⟨y107, hy107⟩ : ∃ y_ : List (S29), y_ = (x7_1.set ((ji7) : Int).toNat (⟨(rd_T29 x7_1 (ji7)).f0, ji11⟩ : S29)) := ⟨_, rfl⟩
                          replace H : (draw_merge.l0 k1 y107 l2 (l2.length : Int) (wrap64 (x29_1 + 1))) = some (r1, r2) := by first | (rw [hy107]; with_reducible exact H) | (have H2_ := (Option.bind_some _ _).symm.trans H; rw [hy107]; with_reducible exact H2_) | (have H2_ := (Option.bind_some _ _).symm.trans H; with_reducible exact H2_) | with_reducible exact H | (rw [hy107]; exact H) | exact H
                          have Ny107 := Aside0.mk hy107
                          clear hy107
                          have H' := Aside0.mk H
                          clear H
                          have p103 : 0 ≤ (x29_1 : Int) := of_decide_eq_true (by first | (with_reducible assumption) | assumption)
                          have q103 : x29_1 < (l2.length : Int) := of_decide_eq_true (by first | (with_reducible assumption) | assumption)
                          obtain ⟨ad103, e103, hx103_0, hx103_1⟩ := at_T29 HR1.out x29_1 p103 q103
                          cases e103
                          replace hx103_0 := (HB.out.cell (World.block_lt_of_cell? w4 _ hx103_0)).trans hx103_0
                          replace hx103_1 := (HB.out.cell (World.block_lt_of_cell? w4 _ hx103_1)).trans hx103_1
                          replace p103 := eq_true p103
                          replace q103 := eq_true q103
                          try go_wp2_with (first | ((with_reducible refine gate_dst (N := 9) rfl ?_); refine box_event ?hg (N := 9) ?hd (cs := #[.int .u64 0, .int .u64 0]) (t := 29) ?hr ?_; (case hd => rfl); (case hg => rfl); (case hr => first | (go_simp; done) | (go_simp; rfl)); intro gb104 hg w13 hbox hb; have n0_ := Aside0.mk (Kd.R_below (Kd.R_elderB (by (with_reducible repeat (first | apply Kd.R_alloc | apply Kd.R_drewN | apply Kd.R_drew)); exact HO_7.out) gb104 (Nat.le_of_eq hg.symm)) hb); have n1_ := Aside0.mk (below_step (by repeat (first | (with_reducible first | exact HB.out | apply below_alloc | apply pw_below_drewN | apply below_drew1) | exact HB.out)) hb); have n2_ := Aside0.mk (hbox); have n3_ := Aside0.mk ((by rw [hg]; exact (below_size (by repeat (first | (with_reducible first | exact HB.out | apply below_alloc | apply pw_below_drewN | apply below_drew1) | exact HB.out))) : w4.heap.size ≤ gb104)); have n4_ := Aside0.mk ((by rw [hg]; exact (below_size (by repeat (first | (with_reducible first | exact HB.out | apply below_alloc | apply pw_below_drewN | apply below_drew1) | exact HB.out))) : w4.heap.size ≤ gb104)); clear HO_7; clear HB; have HO_7 := n0_; have HB := n1_; have BK104 := n2_; have GW104 := n3_; have GE104 := n4_; clear n0_ n1_ n2_ n3_ n4_; clear hb hbox hg; have hcz14_0 : w13.cell? ⟨gb104, 0, none⟩ = some (.int .u64 0) := (blk_cell BK104.out 0).trans rfl; have hcz14_1 : w13.cell? ⟨gb104, 1, none⟩ = some (.int .u64 0) := (blk_cell BK104.out 1).trans rfl; have hfz14_0 := blk_frozen BK104.out 0; have hfz14_1 := blk_frozen BK104.out 1; obtain ⟨Ao15, co15, eo15⟩ := Kd.R_slice HO_7.out; subst eo15))
                          have n0_ : Aside0 (Kd.R k29 29 ((w13.setCell ⟨gb104, 0, none⟩ (.int .u64 ((rd_T29 l2 x29_1).f0))).setCell ⟨gb104, 1, none⟩ (.int .u64 ((rd_T29 l2 x29_1).f1))) w4.heap.size (fun k_ => k_ ≠ gb104) (.slice Ao15 x7_1.length co15) x7_1) := ⟨by (with_reducible repeat (first | apply Kd.R_alloc | apply Kd.R_drewN | apply Kd.R_drew)); exact Kd.R_mono (Kd.R_far (p := ⟨gb104, 1, none⟩) (Kd.R_far (p := ⟨gb104, 0, none⟩) (Kd.R_mono HO_7.out (fun k_ hk => (⟨hk, hk.2⟩ : _ ∧ k_ ≠ gb104))) (fun _ hk => hk.2) (.int .u64 ((rd_T29 l2 x29_1).f0))) (fun _ hk => hk.2) (.int .u64 ((rd_T29 l2 x29_1).f1))) (fun _ hk => hk.1.2)⟩
                          have n1_ : Aside0 (((w13.setCell ⟨gb104, 0, none⟩ (.int .u64 ((rd_T29 l2 x29_1).f0))).setCell ⟨gb104, 1, none⟩ (.int .u64 ((rd_T29 l2 x29_1).f1))).heap[gb104]? = some (.cells #[.int .u64 ((rd_T29 l2 x29_1).f0), .int .u64 ((rd_T29 l2 x29_1).f1)] 29 (0, 0))) := ⟨by (with_reducible repeat (first | refine blk_drewN ?_ _ | refine blk_drew ?_ | refine blk_alloc ?_ _)); refine blk_put (cs := #[.int .u64 ((rd_T29 l2 x29_1).f0), .int .u64 0]) ?_ 1 _ rfl; (with_reducible repeat (first | refine blk_drewN ?_ _ | refine blk_drew ?_ | refine blk_alloc ?_ _)); refine blk_put (cs := #[.int .u64 0, .int .u64 0]) ?_ 0 _ rfl; (with_reducible repeat (first | refine blk_drewN ?_ _ | refine blk_drew ?_ | refine blk_alloc ?_ _)); exact BK104.out⟩
                          have n2_ : Aside0 (Below w4.heap.size w4 ((w13.setCell ⟨gb104, 0, none⟩ (.int .u64 ((rd_T29 l2 x29_1).f0))).setCell ⟨gb104, 1, none⟩ (.int .u64 ((rd_T29 l2 x29_1).f1)))) := ⟨by repeat (first | (with_reducible first | exact HB.out | apply below_alloc | apply pw_below_drewN | apply below_drew1 | refine below_set ?_ GE104.out) | exact HB.out)⟩
                          (try clear HO_7)
                          (try clear BK104)
                          (try clear HB)
                          generalize ((w13.setCell ⟨gb104, 0, none⟩ (.int .u64 ((rd_T29 l2 x29_1).f0))).setCell ⟨gb104, 1, none⟩ (.int .u64 ((rd_T29 l2 x29_1).f1))) = w16 at n0_ n1_ n2_ ⊢
                          have HO_7 := n0_
                          have BK104 := n1_
                          have HB := n2_
                          clear n0_ n1_ n2_
                          have n0_ := Aside0.mk (Kd.R_drew HO_7.out)
                          have n1_ := Aside0.mk (blk_drew BK104.out)
                          have n2_ := Aside0.mk (below_drew1 HB.out)
                          clear HO_7
                          clear BK104
                          clear HB
                          have HO_7 := n0_
                          have BK104 := n1_
                          have HB := n2_
                          clear n0_ n1_ n2_
                          have p105 : 0 ≤ ((ji7) : Int) := of_decide_eq_true (by first | (with_reducible assumption) | assumption)
                          have q105 : (ji7) < (x7_1.length : Int) := of_decide_eq_true (by first | (with_reducible assumption) | assumption)
                          obtain ⟨ad105, e105, hx105_0, hx105_1⟩ := at_T29 (Kd.R_reads' HO_7.out).2.2 (ji7) p105 q105
                          cases e105
                          replace p105 := eq_true p105
                          replace q105 := eq_true q105
                          refine start_ (n := 12) (S := fun w' => w'.cell? ⟨gb104, 0, none⟩ = some (.int .u64 ((rd_T29 l2 x29_1).f0)) ∧ w'.cell? ⟨gb104, 1, none⟩ = some (.int .u64 ((rd_T29 l2 x29_1).f1)) ∧ w'.cell? (ad105.add (((ji7)).toNat * 2)) = some (.int .u64 ((rd_T29 x7_1 (ji7)).f0)) ∧ w'.cell? ⟨(ad105.add (((ji7)).toNat * 2)).block, (ad105.add (((ji7)).toNat * 2)).off + 1, none⟩ = some (.int .u64 ((rd_T29 x7_1 (ji7)).f1))) (ds := []) #[false, false, false, false, false, false, false, false, false, false, false, false] (by kernel_rfl) rfl rfl ⟨(blk_cell BK104.out 0).trans rfl, (blk_cell BK104.out 1).trans rfl, hx105_0, hx105_1⟩ (fun hHeld => ?_); refine with_tabW draw_merge.tab14 draw_merge.bits14 (fun HT_ HW_ => ?_)
                          generalize w16.drew = w17 at HO_7 BK104 HB hx105_0 hx105_1 hHeld ⊢
                          refine pure_ (i := 0) (N := some 36) (v := ?_) (a' := ?_) #[true, false, false, false, false, false, false, false, false, false, false, false] rfl rfl (any_of HT_.out (by kernel_rfl)) (fun _ _ _ h => h) (Or.inl ⟨by rfl, ?_⟩) ?_ ?_
                          rotate_left
                          · intro w'
                            go_simp
                            with_reducible rfl
                          rotate_left
                          · simp only [Act.put, List.setIfInBounds_toArray, List.set_cons_zero, List.set_cons_succ, i64_w, i32_w]
                            rfl
                          refine pure_ (i := 1) (N := some 37) (v := ?_) (a' := ?_) #[true, true, false, false, false, false, false, false, false, false, false, false] rfl rfl (any_of HT_.out (by kernel_rfl)) (fun _ _ _ h => h) (Or.inl ⟨by rfl, ?_⟩) ?_ ?_
                          rotate_left
                          · intro w'
                            go_simp
                            with_reducible rfl
                          rotate_left
                          · simp only [Act.put, List.setIfInBounds_toArray, List.set_cons_zero, List.set_cons_succ, i64_w, i32_w]
                            rfl
                          refine pure_ (i := 2) (N := some 38) (v := ?_) (a' := ?_) #[true, true, true, false, false, false, false, false, false, false, false, false] rfl rfl (any_of HT_.out (by kernel_rfl)) (fun _ _ _ h => h) (Or.inl ⟨by rfl, ?_⟩) ?_ ?_
                          rotate_left
                          · intro w'
                            go_simp
                            with_reducible rfl
                          rotate_left
                          · simp only [Act.put, List.setIfInBounds_toArray, List.set_cons_zero, List.set_cons_succ, i64_w, i32_w]
                            rfl
                          refine pure_ (i := 3) (N := some 39) (v := ?_) (a' := ?_) #[true, true, true, true, false, false, false, false, false, false, false, false] rfl rfl (any_of HT_.out (by kernel_rfl)) (fun _ _ _ h => h) (Or.inl ⟨by rfl, ?_⟩) ?_ ?_
                          rotate_left
                          · intro w'
                            go_simp
                            with_reducible rfl
                          rotate_left
                          · simp only [Act.put, List.setIfInBounds_toArray, List.set_cons_zero, List.set_cons_succ, i64_w, i32_w]
                            rfl
                          refine pure_ (i := 5) (N := some 41) (v := ?_) (a' := ?_) #[true, true, true, true, false, true, false, false, false, false, false, false] rfl rfl (any_of HT_.out (by kernel_rfl)) (fun _ _ _ h => h) (Or.inl ⟨by rfl, ?_⟩) ?_ ?_
                          rotate_left
                          · intro w'
                            go_simp
                            with_reducible rfl
                          rotate_left
                          · simp only [Act.put, List.setIfInBounds_toArray, List.set_cons_zero, List.set_cons_succ, i64_w, i32_w]
                            rfl
                          refine pure_ (i := 6) (N := some 42) (v := ?_) (a' := ?_) #[true, true, true, true, false, true, true, false, false, false, false, false] rfl rfl (any_of HT_.out (by kernel_rfl)) (fun _ _ _ h => h) (Or.inl ⟨by rfl, ?_⟩) ?_ ?_
                          rotate_left
                          · intro w'
                            go_simp
                            with_reducible rfl
                          rotate_left
                          · simp only [Act.put, List.setIfInBounds_toArray, List.set_cons_zero, List.set_cons_succ, i64_w, i32_w]
                            rfl
                          refine pure_ (i := 7) (N := some 43) (v := ?_) (a' := ?_) #[true, true, true, true, false, true, true, true, false, false, false, false] rfl rfl (any_of HT_.out (by kernel_rfl)) (fun _ _ _ h => h) (Or.inl ⟨by rfl, ?_⟩) ?_ ?_
                          rotate_left
                          · intro w'
                            go_simp
                            with_reducible rfl
                          rotate_left
                          · simp only [Act.put, List.setIfInBounds_toArray, List.set_cons_zero, List.set_cons_succ, i64_w, i32_w]
                            rfl
                          refine pure_ (i := 8) (N := some 44) (v := ?_) (a' := ?_) #[true, true, true, true, false, true, true, true, true, false, false, false] rfl rfl (any_of HT_.out (by kernel_rfl)) (fun _ _ _ h => h) (Or.inl ⟨by rfl, ?_⟩) ?_ ?_
                          rotate_left
                          · intro w'
                            go_simp
                            with_reducible rfl
                          rotate_left
                          · simp only [Act.put, List.setIfInBounds_toArray, List.set_cons_zero, List.set_cons_succ, i64_w, i32_w]
                            rfl
                          refine take_ (i := 4) (N := some 40) (v := ?_) (a' := ?_) #[true, true, true, true, true, true, true, true, true, false, false, false] rfl rfl (take_ofW HT_.out HW_.out (by kernel_rfl)) (fun _ _ _ h => h) (Or.inl ⟨by rfl, ?_⟩) hHeld ?_ ?_
                          rotate_left
                          · rintro w' ⟨s0, s1, s2, s3⟩
                            go_simp
                            with_reducible rfl
                          rotate_left
                          · simp only [Act.put, List.setIfInBounds_toArray, List.set_cons_zero, List.set_cons_succ, i64_w, i32_w]
                            rfl
                          refine take_ (i := 9) (N := some 45) (v := ?_) (a' := ?_) #[true, true, true, true, true, true, true, true, true, true, false, false] rfl rfl (take_ofW HT_.out HW_.out (by kernel_rfl)) (fun _ _ _ h => h) (Or.inl ⟨by rfl, ?_⟩) hHeld ?_ ?_
                          rotate_left
                          · rintro w' ⟨s0, s1, s2, s3⟩
                            go_simp
                            with_reducible rfl
                          rotate_left
                          · simp only [Act.put, List.setIfInBounds_toArray, List.set_cons_zero, List.set_cons_succ, i64_w, i32_w]
                            rfl
                          refine pure_ (i := 10) (N := some 46) (v := ?_) (a' := ?_) #[true, true, true, true, true, true, true, true, true, true, true, false] rfl rfl (any_of HT_.out (by kernel_rfl)) (fun _ _ _ h => h) (Or.inl ⟨by rfl, ?_⟩) ?_ ?_
                          rotate_left
                          · intro w'
                            go_simp
                            with_reducible rfl
                          rotate_left
                          · simp only [Act.put, List.setIfInBounds_toArray, List.set_cons_zero, List.set_cons_succ, i64_w, i32_w]
                            rfl
                          refine pure_ (i := 11) (N := some 47) (v := ?_) (a' := ?_) #[true, true, true, true, true, true, true, true, true, true, true, true] rfl rfl (any_of HT_.out (by kernel_rfl)) (fun _ _ _ h => h) (Or.inl ⟨by rfl, ?_⟩) ?_ ?_
                          rotate_left
                          · intro w'
                            go_simp
                            with_reducible rfl
                          rotate_left
                          · simp only [Act.put, List.setIfInBounds_toArray, List.set_cons_zero, List.set_cons_succ, i64_w, i32_w]
                            rfl
                          refine done_ (done_of HT_.out (by kernel_rfl)) ?_
                          try go_wp2
                          have n0_ := Aside0.mk (Kd.R_drew HO_7.out)
                          have n1_ := Aside0.mk (blk_drew BK104.out)
                          have n2_ := Aside0.mk (below_drew1 HB.out)
                          clear HO_7
                          clear BK104
                          clear HB
                          have HO_7 := n0_
                          have BK104 := n1_
                          have HB := n2_
                          clear n0_ n1_ n2_
                          have p106 : 0 ≤ ((ji7) : Int) := of_decide_eq_true (by first | (with_reducible assumption) | assumption)
                          have q106 : (ji7) < (x7_1.length : Int) := of_decide_eq_true (by first | (with_reducible assumption) | assumption)
                          obtain ⟨ad106, e106, hx106_0, hx106_1⟩ := at_T29 (Kd.R_reads' HO_7.out).2.2 (ji7) p106 q106
                          obtain rfl : ad105 = ad106 := (by injection e106)
                          replace p106 := eq_true p106
                          replace q106 := eq_true q106
                          have p12 : 0 ≤ ((ji7) : Int) := of_decide_eq_true (by first | (with_reducible assumption) | assumption)
                          have q12 : ((ji7) : Int) < ((x7_1.length : Int) : Int) := of_decide_eq_true (by first | (with_reducible assumption) | assumption)
                          obtain ⟨go12, co12, eo12, gb12, gl12, cl12, HG12⟩ := Kd.R_form HO_7.out (by omega)
                          (first | cases eo12 | (injection eo12 with ea_ en_ ec_; (first | subst ea_ | (injection ea_ with ea_; subst ea_)); subst ec_; clear en_))
                          have GB12 := Aside0.mk gb12
                          have GG12 := Aside0.mk HG12
                          clear gb12 gl12 HG12
                          (first | simp only [add_plain] at hx105_0 | skip)
                          (first | simp only [add_plain] at hx105_1 | skip)
                          (first | simp only [add_plain] at hx106_0 | skip)
                          (first | simp only [add_plain] at hx106_1 | skip)
                          obtain ⟨ce12, hcl12, hM12, hcc12, hfr12⟩ := Kd.R_elem HO_7.out z29 ((ji7) : Int) p12 q12
                          obtain rfl := k29_openM hM12
                          have hx12_0 : World.cell? _ ⟨go12, ((ji7) : Int).toNat * 2, none⟩ = some (.int .u64 ((rd_T29 x7_1 (ji7)).f0)) := hcc12 0 _ rfl
                          have hx12_1 : World.cell? _ ⟨go12, ((ji7) : Int).toNat * 2 + 1, none⟩ = some (.int .u64 ((rd_T29 x7_1 (ji7)).f1)) := hcc12 1 _ rfl
                          have hf12_0 : World.frozen? _ ⟨go12, ((ji7) : Int).toNat * 2, none⟩ = false := hfr12 0
                          have hf12_1 : World.frozen? _ ⟨go12, ((ji7) : Int).toNat * 2 + 1, none⟩ = false := hfr12 1
                          clear hcl12 hcc12 hfr12 hM12
                          replace p12 := eq_true p12
                          replace q12 := eq_true q12
                          obtain ⟨ce19, hcl19, hM19, hcc19, hfr19⟩ := Kd.R_elem HO_7.out z29 ((ji7) : Int) (of_decide_eq_true (by first | (with_reducible assumption) | assumption)) (by have h_ : ((ji7) : Int) < ((x7_1.length : Int) : Int) := of_decide_eq_true (by first | (with_reducible assumption) | assumption); first | exact h_ | (have e_ := (Kd.R_reads' HO_7.out).1; omega) | simpa using h_)
                          obtain rfl := k29_openM hM19
                          have HP19 := (Kd.R_seg HO_7.out ((ji7) : Int) (of_decide_eq_true (by first | (with_reducible assumption) | assumption)) (by have h_ : ((ji7) : Int) < ((x7_1.length : Int) : Int) := of_decide_eq_true (by first | (with_reducible assumption) | assumption); first | exact h_ | (have e_ := (Kd.R_reads' HO_7.out).1; omega) | simpa using h_) (seg := [.int .u64 ji11]) (j := 1) hcl19 hcc19 (show 2 ≤ 2 from by decide) (x' := (⟨(rd_T29 x7_1 (ji7)).f0, ji11⟩ : S29)) (k29_mkM _ _ _ (⟨(rd_T29 x7_1 (ji7)).f0, ji11⟩ : S29) ) (fun _ hk => hk)).1
                          rw [← Ny107.out] at HP19
                          have HQ19 := Aside0.mk HP19
                          clear hcl19 hcc19 hfr19 hM19 HP19
                          refine start_ (n := 13) (S := fun w' => w'.cell? ⟨gb104, 0, none⟩ = some (.int .u64 ((rd_T29 l2 x29_1).f0)) ∧ w'.cell? ⟨gb104, 1, none⟩ = some (.int .u64 ((rd_T29 l2 x29_1).f1)) ∧ w'.cell? ⟨go12, ((ji7) : Int).toNat * 2, none⟩ = some (.int .u64 ((rd_T29 x7_1 (ji7)).f0)) ∧ w'.cell? ⟨go12, ((ji7) : Int).toNat * 2 + 1, none⟩ = some (.int .u64 ((rd_T29 x7_1 (ji7)).f1))) (ds := [12]) #[false, false, false, false, false, false, false, false, false, false, false, false, false] (by kernel_rfl) rfl rfl ⟨(blk_cell BK104.out 0).trans rfl, (blk_cell BK104.out 1).trans rfl, hx106_0, hx106_1⟩ (fun hHeld => ?_); refine with_tabW draw_merge.tab15 draw_merge.bits15 (fun HT_ HW_ => ?_)
                          generalize w17.drew = w18 at HO_7 BK104 HB GG12 HQ19 hf12_0 hf12_1 hx105_0 hx105_1 hx106_0 hx106_1 hx12_0 hx12_1 hHeld ⊢
                          refine pure_ (i := 0) (N := some 48) (v := ?_) (a' := ?_) #[true, false, false, false, false, false, false, false, false, false, false, false, false] rfl rfl (any_of HT_.out (by kernel_rfl)) (fun _ _ _ h => h) (Or.inl ⟨by rfl, ?_⟩) ?_ ?_
                          rotate_left
                          · intro w'
                            go_simp
                            with_reducible rfl
                          rotate_left
                          · simp only [Act.put, List.setIfInBounds_toArray, List.set_cons_zero, List.set_cons_succ, i64_w, i32_w]
                            rfl
                          refine pure_ (i := 1) (N := some 49) (v := ?_) (a' := ?_) #[true, true, false, false, false, false, false, false, false, false, false, false, false] rfl rfl (any_of HT_.out (by kernel_rfl)) (fun _ _ _ h => h) (Or.inl ⟨by rfl, ?_⟩) ?_ ?_
                          rotate_left
                          · intro w'
                            go_simp
                            with_reducible rfl
                          rotate_left
                          · simp only [Act.put, List.setIfInBounds_toArray, List.set_cons_zero, List.set_cons_succ, i64_w, i32_w]
                            rfl
                          refine pure_ (i := 2) (N := some 50) (v := ?_) (a' := ?_) #[true, true, true, false, false, false, false, false, false, false, false, false, false] rfl rfl (any_of HT_.out (by kernel_rfl)) (fun _ _ _ h => h) (Or.inl ⟨by rfl, ?_⟩) ?_ ?_
                          rotate_left
                          · intro w'
                            go_simp
                            with_reducible rfl
                          rotate_left
                          · simp only [Act.put, List.setIfInBounds_toArray, List.set_cons_zero, List.set_cons_succ, i64_w, i32_w]
                            rfl
                          refine pure_ (i := 3) (N := some 51) (v := ?_) (a' := ?_) #[true, true, true, true, false, false, false, false, false, false, false, false, false] rfl rfl (any_of HT_.out (by kernel_rfl)) (fun _ _ _ h => h) (Or.inl ⟨by rfl, ?_⟩) ?_ ?_
                          rotate_left
                          · intro w'
                            go_simp
                            with_reducible rfl
                          rotate_left
                          · simp only [Act.put, List.setIfInBounds_toArray, List.set_cons_zero, List.set_cons_succ, i64_w, i32_w]
                            rfl
                          refine pure_ (i := 4) (N := some 52) (v := ?_) (a' := ?_) #[true, true, true, true, true, false, false, false, false, false, false, false, false] rfl rfl (any_of HT_.out (by kernel_rfl)) (fun _ _ _ h => h) (Or.inl ⟨by rfl, ?_⟩) ?_ ?_
                          rotate_left
                          · intro w'
                            go_simp
                            with_reducible rfl
                          rotate_left
                          · simp only [Act.put, List.setIfInBounds_toArray, List.set_cons_zero, List.set_cons_succ, i64_w, i32_w]
                            rfl
                          refine pure_ (i := 5) (N := some 53) (v := ?_) (a' := ?_) #[true, true, true, true, true, true, false, false, false, false, false, false, false] rfl rfl (any_of HT_.out (by kernel_rfl)) (fun _ _ _ h => h) (Or.inl ⟨by rfl, ?_⟩) ?_ ?_
                          rotate_left
                          · intro w'
                            go_simp
                            with_reducible rfl
                          rotate_left
                          · simp only [Act.put, List.setIfInBounds_toArray, List.set_cons_zero, List.set_cons_succ, i64_w, i32_w]
                            rfl
                          refine pure_ (i := 7) (N := some 55) (v := ?_) (a' := ?_) #[true, true, true, true, true, true, false, true, false, false, false, false, false] rfl rfl (any_of HT_.out (by kernel_rfl)) (fun _ _ _ h => h) (Or.inl ⟨by rfl, ?_⟩) ?_ ?_
                          rotate_left
                          · intro w'
                            go_simp
                            with_reducible rfl
                          rotate_left
                          · simp only [Act.put, List.setIfInBounds_toArray, List.set_cons_zero, List.set_cons_succ, i64_w, i32_w]
                            rfl
                          refine take_ (i := 6) (N := some 54) (v := ?_) (a' := ?_) #[true, true, true, true, true, true, true, true, false, false, false, false, false] rfl rfl (take_ofW HT_.out HW_.out (by kernel_rfl)) (fun _ _ _ h => h) (Or.inl ⟨by rfl, ?_⟩) hHeld ?_ ?_
                          rotate_left
                          · rintro w' ⟨s0, s1, s2, s3⟩
                            go_simp
                            with_reducible rfl
                          rotate_left
                          · simp only [Act.put, List.setIfInBounds_toArray, List.set_cons_zero, List.set_cons_succ, i64_w, i32_w]
                            rfl
                          refine take_ (i := 8) (N := some 56) (v := ?_) (a' := ?_) #[true, true, true, true, true, true, true, true, true, false, false, false, false] rfl rfl (take_ofW HT_.out HW_.out (by kernel_rfl)) (fun _ _ _ h => h) (Or.inl ⟨by rfl, ?_⟩) hHeld ?_ ?_
                          rotate_left
                          · rintro w' ⟨s0, s1, s2, s3⟩
                            go_simp
                            with_reducible rfl
                          rotate_left
                          · simp only [Act.put, List.setIfInBounds_toArray, List.set_cons_zero, List.set_cons_succ, i64_w, i32_w]
                            rfl
                          refine pure_ (i := 9) (N := some 57) (v := ?_) (a' := ?_) #[true, true, true, true, true, true, true, true, true, true, false, false, false] rfl rfl (any_of HT_.out (by kernel_rfl)) (fun _ _ _ h => h) (Or.inl ⟨by rfl, ?_⟩) ?_ ?_
                          rotate_left
                          · intro w'
                            go_simp
                            with_reducible rfl
                          rotate_left
                          · simp only [Act.put, List.setIfInBounds_toArray, List.set_cons_zero, List.set_cons_succ, i64_w, i32_w]
                            rfl
                          refine pure_ (i := 10) (N := some 58) (v := ?_) (a' := ?_) #[true, true, true, true, true, true, true, true, true, true, true, false, false] rfl rfl (any_of HT_.out (by kernel_rfl)) (fun _ _ _ h => h) (Or.inl ⟨by rfl, ?_⟩) ?_ ?_
                          rotate_left
                          · intro w'
                            go_simp
                            with_reducible rfl
                          rotate_left
                          · simp only [Act.put, List.setIfInBounds_toArray, List.set_cons_zero, List.set_cons_succ, i64_w, i32_w]
                            rfl
                          refine pure_ (i := 11) (N := some 59) (v := ?_) (a' := ?_) #[true, true, true, true, true, true, true, true, true, true, true, true, false] rfl rfl (any_of HT_.out (by kernel_rfl)) (fun _ _ _ h => h) (Or.inl ⟨by rfl, ?_⟩) ?_ ?_
                          rotate_left
                          · intro w'
                            go_simp
                            with_reducible rfl
                          rotate_left
                          · simp only [Act.put, List.setIfInBounds_toArray, List.set_cons_zero, List.set_cons_succ, i64_w, i32_w]
                            rfl
                          refine last_ (i := 12) (N := none) #[true, true, true, true, true, true, true, true, true, true, true, true, true] rfl rfl (one_of HT_.out (by kernel_rfl)) (by decide) (fun K hK => ?_)
                          refine skip_ (w1 := ?_) (by rfl) rfl ?_ ?_
                          rotate_left
                          · go_simp
                            rfl
                          refine hK.out _ _ ?_
                          clear hK K
                          refine done_ (done_of HT_.out (by kernel_rfl)) ?_
                          try go_wp2
                          go_roundg k1
                          case measure => have := HK1.out; omega
                          case rel => exact ⟨(y107), (wrap64 (x29_1 + 1)), (by first | rfl | (simp; done) | (simp [*]; done)), H', ⟨by have := HK1.out; omega⟩, ⟨by (with_reducible repeat (first | apply Kd.R_alloc | apply Kd.R_drewN | apply Kd.R_drew)); exact Kd.R_mono HQ19.out (fun _ hk => trivial)⟩, ⟨by repeat (first | (with_reducible first | exact HB.out | apply below_alloc | apply pw_below_drewN | apply below_drew1 | refine below_set ?_ GB12.out | refine below_set ?_ GE104.out) | exact HB.out)⟩⟩
                        · rw [if_neg c10] at H
                          have c10b0 : decide (((rd_T29 l2 x29_1).f0) ≤ ((rd_T29 x7_1 (ji7)).f1)) = false := decide_eq_false c10
                          clear c10
                          by_cases c20 : x7_1.length < 8796093022208
                          · rw [if_pos c20] at H
                            have LMc20 := Aside0.mk c20
                            clear c20
                            obtain ⟨y108, hy108⟩ : ∃ y_ : List (S29), y_ = (x7_1 ++ [(⟨(rd_T29 l2 x29_1).f0, (rd_T29 l2 x29_1).f1⟩ : S29)]) := ⟨_, rfl⟩
                            replace H : (draw_merge.l0 k1 y108 l2 (l2.length : Int) (wrap64 (x29_1 + 1))) = some (r1, r2) := by first | (rw [hy108]; with_reducible exact H) | (have H2_ := (Option.bind_some _ _).symm.trans H; rw [hy108]; with_reducible exact H2_) | (have H2_ := (Option.bind_some _ _).symm.trans H; with_reducible exact H2_) | with_reducible exact H | (rw [hy108]; exact H) | exact H
                            have Ny108 := Aside0.mk hy108
                            clear hy108
                            have H' := Aside0.mk H
                            clear H
                            have p103 : 0 ≤ (x29_1 : Int) := of_decide_eq_true (by first | (with_reducible assumption) | assumption)
                            have q103 : x29_1 < (l2.length : Int) := of_decide_eq_true (by first | (with_reducible assumption) | assumption)
                            obtain ⟨ad103, e103, hx103_0, hx103_1⟩ := at_T29 HR1.out x29_1 p103 q103
                            cases e103
                            replace hx103_0 := (HB.out.cell (World.block_lt_of_cell? w4 _ hx103_0)).trans hx103_0
                            replace hx103_1 := (HB.out.cell (World.block_lt_of_cell? w4 _ hx103_1)).trans hx103_1
                            replace p103 := eq_true p103
                            replace q103 := eq_true q103
                            try go_wp2_with (first | ((with_reducible refine gate_dst (N := 9) rfl ?_); refine box_event ?hg (N := 9) ?hd (cs := #[.int .u64 0, .int .u64 0]) (t := 29) ?hr ?_; (case hd => rfl); (case hg => rfl); (case hr => first | (go_simp; done) | (go_simp; rfl)); intro gb104 hg w21 hbox hb; have n0_ := Aside0.mk (Kd.R_below (Kd.R_elderB (by (with_reducible repeat (first | apply Kd.R_alloc | apply Kd.R_drewN | apply Kd.R_drew)); exact HO_7.out) gb104 (Nat.le_of_eq hg.symm)) hb); have n1_ := Aside0.mk (below_step (by repeat (first | (with_reducible first | exact HB.out | apply below_alloc | apply pw_below_drewN | apply below_drew1) | exact HB.out)) hb); have n2_ := Aside0.mk (hbox); have n3_ := Aside0.mk ((by rw [hg]; exact (below_size (by repeat (first | (with_reducible first | exact HB.out | apply below_alloc | apply pw_below_drewN | apply below_drew1) | exact HB.out))) : w4.heap.size ≤ gb104)); have n4_ := Aside0.mk ((by rw [hg]; exact (below_size (by repeat (first | (with_reducible first | exact HB.out | apply below_alloc | apply pw_below_drewN | apply below_drew1) | exact HB.out))) : w4.heap.size ≤ gb104)); clear HO_7; clear HB; have HO_7 := n0_; have HB := n1_; have BK104 := n2_; have GW104 := n3_; have GE104 := n4_; clear n0_ n1_ n2_ n3_ n4_; clear hb hbox hg; have hcz22_0 : w21.cell? ⟨gb104, 0, none⟩ = some (.int .u64 0) := (blk_cell BK104.out 0).trans rfl; have hcz22_1 : w21.cell? ⟨gb104, 1, none⟩ = some (.int .u64 0) := (blk_cell BK104.out 1).trans rfl; have hfz22_0 := blk_frozen BK104.out 0; have hfz22_1 := blk_frozen BK104.out 1; obtain ⟨Ao23, co23, eo23⟩ := Kd.R_slice HO_7.out; subst eo23))
                            have n0_ : Aside0 (Kd.R k29 29 ((w21.setCell ⟨gb104, 0, none⟩ (.int .u64 ((rd_T29 l2 x29_1).f0))).setCell ⟨gb104, 1, none⟩ (.int .u64 ((rd_T29 l2 x29_1).f1))) w4.heap.size (fun k_ => k_ ≠ gb104) (.slice Ao23 x7_1.length co23) x7_1) := ⟨by (with_reducible repeat (first | apply Kd.R_alloc | apply Kd.R_drewN | apply Kd.R_drew)); exact Kd.R_mono (Kd.R_far (p := ⟨gb104, 1, none⟩) (Kd.R_far (p := ⟨gb104, 0, none⟩) (Kd.R_mono HO_7.out (fun k_ hk => (⟨hk, hk.2⟩ : _ ∧ k_ ≠ gb104))) (fun _ hk => hk.2) (.int .u64 ((rd_T29 l2 x29_1).f0))) (fun _ hk => hk.2) (.int .u64 ((rd_T29 l2 x29_1).f1))) (fun _ hk => hk.1.2)⟩
                            have n1_ : Aside0 (((w21.setCell ⟨gb104, 0, none⟩ (.int .u64 ((rd_T29 l2 x29_1).f0))).setCell ⟨gb104, 1, none⟩ (.int .u64 ((rd_T29 l2 x29_1).f1))).heap[gb104]? = some (.cells #[.int .u64 ((rd_T29 l2 x29_1).f0), .int .u64 ((rd_T29 l2 x29_1).f1)] 29 (0, 0))) := ⟨by (with_reducible repeat (first | refine blk_drewN ?_ _ | refine blk_drew ?_ | refine blk_alloc ?_ _)); refine blk_put (cs := #[.int .u64 ((rd_T29 l2 x29_1).f0), .int .u64 0]) ?_ 1 _ rfl; (with_reducible repeat (first | refine blk_drewN ?_ _ | refine blk_drew ?_ | refine blk_alloc ?_ _)); refine blk_put (cs := #[.int .u64 0, .int .u64 0]) ?_ 0 _ rfl; (with_reducible repeat (first | refine blk_drewN ?_ _ | refine blk_drew ?_ | refine blk_alloc ?_ _)); exact BK104.out⟩
                            have n2_ : Aside0 (Below w4.heap.size w4 ((w21.setCell ⟨gb104, 0, none⟩ (.int .u64 ((rd_T29 l2 x29_1).f0))).setCell ⟨gb104, 1, none⟩ (.int .u64 ((rd_T29 l2 x29_1).f1)))) := ⟨by repeat (first | (with_reducible first | exact HB.out | apply below_alloc | apply pw_below_drewN | apply below_drew1 | refine below_set ?_ GE104.out) | exact HB.out)⟩
                            (try clear HO_7)
                            (try clear BK104)
                            (try clear HB)
                            generalize ((w21.setCell ⟨gb104, 0, none⟩ (.int .u64 ((rd_T29 l2 x29_1).f0))).setCell ⟨gb104, 1, none⟩ (.int .u64 ((rd_T29 l2 x29_1).f1))) = w24 at n0_ n1_ n2_ ⊢
                            have HO_7 := n0_
                            have BK104 := n1_
                            have HB := n2_
                            clear n0_ n1_ n2_
                            have n0_ := Aside0.mk (Kd.R_drew HO_7.out)
                            have n1_ := Aside0.mk (blk_drew BK104.out)
                            have n2_ := Aside0.mk (below_drew1 HB.out)
                            clear HO_7
                            clear BK104
                            clear HB
                            have HO_7 := n0_
                            have BK104 := n1_
                            have HB := n2_
                            clear n0_ n1_ n2_
                            have p105 : 0 ≤ ((ji7) : Int) := of_decide_eq_true (by first | (with_reducible assumption) | assumption)
                            have q105 : (ji7) < (x7_1.length : Int) := of_decide_eq_true (by first | (with_reducible assumption) | assumption)
                            obtain ⟨ad105, e105, hx105_0, hx105_1⟩ := at_T29 (Kd.R_reads' HO_7.out).2.2 (ji7) p105 q105
                            cases e105
                            replace p105 := eq_true p105
                            replace q105 := eq_true q105
                            refine start_ (n := 12) (S := fun w' => w'.cell? ⟨gb104, 0, none⟩ = some (.int .u64 ((rd_T29 l2 x29_1).f0)) ∧ w'.cell? ⟨gb104, 1, none⟩ = some (.int .u64 ((rd_T29 l2 x29_1).f1)) ∧ w'.cell? (ad105.add (((ji7)).toNat * 2)) = some (.int .u64 ((rd_T29 x7_1 (ji7)).f0)) ∧ w'.cell? ⟨(ad105.add (((ji7)).toNat * 2)).block, (ad105.add (((ji7)).toNat * 2)).off + 1, none⟩ = some (.int .u64 ((rd_T29 x7_1 (ji7)).f1))) (ds := []) #[false, false, false, false, false, false, false, false, false, false, false, false] (by kernel_rfl) rfl rfl ⟨(blk_cell BK104.out 0).trans rfl, (blk_cell BK104.out 1).trans rfl, hx105_0, hx105_1⟩ (fun hHeld => ?_); refine with_tabW draw_merge.tab14 draw_merge.bits14 (fun HT_ HW_ => ?_)
                            generalize w24.drew = w25 at HO_7 BK104 HB hx105_0 hx105_1 hHeld ⊢
                            refine pure_ (i := 0) (N := some 36) (v := ?_) (a' := ?_) #[true, false, false, false, false, false, false, false, false, false, false, false] rfl rfl (any_of HT_.out (by kernel_rfl)) (fun _ _ _ h => h) (Or.inl ⟨by rfl, ?_⟩) ?_ ?_
                            rotate_left
                            · intro w'
                              go_simp
                              with_reducible rfl
                            rotate_left
                            · simp only [Act.put, List.setIfInBounds_toArray, List.set_cons_zero, List.set_cons_succ, i64_w, i32_w]
                              rfl
                            refine pure_ (i := 1) (N := some 37) (v := ?_) (a' := ?_) #[true, true, false, false, false, false, false, false, false, false, false, false] rfl rfl (any_of HT_.out (by kernel_rfl)) (fun _ _ _ h => h) (Or.inl ⟨by rfl, ?_⟩) ?_ ?_
                            rotate_left
                            · intro w'
                              go_simp
                              with_reducible rfl
                            rotate_left
                            · simp only [Act.put, List.setIfInBounds_toArray, List.set_cons_zero, List.set_cons_succ, i64_w, i32_w]
                              rfl
                            refine pure_ (i := 2) (N := some 38) (v := ?_) (a' := ?_) #[true, true, true, false, false, false, false, false, false, false, false, false] rfl rfl (any_of HT_.out (by kernel_rfl)) (fun _ _ _ h => h) (Or.inl ⟨by rfl, ?_⟩) ?_ ?_
                            rotate_left
                            · intro w'
                              go_simp
                              with_reducible rfl
                            rotate_left
                            · simp only [Act.put, List.setIfInBounds_toArray, List.set_cons_zero, List.set_cons_succ, i64_w, i32_w]
                              rfl
                            refine pure_ (i := 3) (N := some 39) (v := ?_) (a' := ?_) #[true, true, true, true, false, false, false, false, false, false, false, false] rfl rfl (any_of HT_.out (by kernel_rfl)) (fun _ _ _ h => h) (Or.inl ⟨by rfl, ?_⟩) ?_ ?_
                            rotate_left
                            · intro w'
                              go_simp
                              with_reducible rfl
                            rotate_left
                            · simp only [Act.put, List.setIfInBounds_toArray, List.set_cons_zero, List.set_cons_succ, i64_w, i32_w]
                              rfl
                            refine pure_ (i := 5) (N := some 41) (v := ?_) (a' := ?_) #[true, true, true, true, false, true, false, false, false, false, false, false] rfl rfl (any_of HT_.out (by kernel_rfl)) (fun _ _ _ h => h) (Or.inl ⟨by rfl, ?_⟩) ?_ ?_
                            rotate_left
                            · intro w'
                              go_simp
                              with_reducible rfl
                            rotate_left
                            · simp only [Act.put, List.setIfInBounds_toArray, List.set_cons_zero, List.set_cons_succ, i64_w, i32_w]
                              rfl
                            refine pure_ (i := 6) (N := some 42) (v := ?_) (a' := ?_) #[true, true, true, true, false, true, true, false, false, false, false, false] rfl rfl (any_of HT_.out (by kernel_rfl)) (fun _ _ _ h => h) (Or.inl ⟨by rfl, ?_⟩) ?_ ?_
                            rotate_left
                            · intro w'
                              go_simp
                              with_reducible rfl
                            rotate_left
                            · simp only [Act.put, List.setIfInBounds_toArray, List.set_cons_zero, List.set_cons_succ, i64_w, i32_w]
                              rfl
                            refine pure_ (i := 7) (N := some 43) (v := ?_) (a' := ?_) #[true, true, true, true, false, true, true, true, false, false, false, false] rfl rfl (any_of HT_.out (by kernel_rfl)) (fun _ _ _ h => h) (Or.inl ⟨by rfl, ?_⟩) ?_ ?_
                            rotate_left
                            · intro w'
                              go_simp
                              with_reducible rfl
                            rotate_left
                            · simp only [Act.put, List.setIfInBounds_toArray, List.set_cons_zero, List.set_cons_succ, i64_w, i32_w]
                              rfl
                            refine pure_ (i := 8) (N := some 44) (v := ?_) (a' := ?_) #[true, true, true, true, false, true, true, true, true, false, false, false] rfl rfl (any_of HT_.out (by kernel_rfl)) (fun _ _ _ h => h) (Or.inl ⟨by rfl, ?_⟩) ?_ ?_
                            rotate_left
                            · intro w'
                              go_simp
                              with_reducible rfl
                            rotate_left
                            · simp only [Act.put, List.setIfInBounds_toArray, List.set_cons_zero, List.set_cons_succ, i64_w, i32_w]
                              rfl
                            refine take_ (i := 4) (N := some 40) (v := ?_) (a' := ?_) #[true, true, true, true, true, true, true, true, true, false, false, false] rfl rfl (take_ofW HT_.out HW_.out (by kernel_rfl)) (fun _ _ _ h => h) (Or.inl ⟨by rfl, ?_⟩) hHeld ?_ ?_
                            rotate_left
                            · rintro w' ⟨s0, s1, s2, s3⟩
                              go_simp
                              with_reducible rfl
                            rotate_left
                            · simp only [Act.put, List.setIfInBounds_toArray, List.set_cons_zero, List.set_cons_succ, i64_w, i32_w]
                              rfl
                            refine take_ (i := 9) (N := some 45) (v := ?_) (a' := ?_) #[true, true, true, true, true, true, true, true, true, true, false, false] rfl rfl (take_ofW HT_.out HW_.out (by kernel_rfl)) (fun _ _ _ h => h) (Or.inl ⟨by rfl, ?_⟩) hHeld ?_ ?_
                            rotate_left
                            · rintro w' ⟨s0, s1, s2, s3⟩
                              go_simp
                              with_reducible rfl
                            rotate_left
                            · simp only [Act.put, List.setIfInBounds_toArray, List.set_cons_zero, List.set_cons_succ, i64_w, i32_w]
                              rfl
                            refine pure_ (i := 10) (N := some 46) (v := ?_) (a' := ?_) #[true, true, true, true, true, true, true, true, true, true, true, false] rfl rfl (any_of HT_.out (by kernel_rfl)) (fun _ _ _ h => h) (Or.inl ⟨by rfl, ?_⟩) ?_ ?_
                            rotate_left
                            · intro w'
                              go_simp
                              with_reducible rfl
                            rotate_left
                            · simp only [Act.put, List.setIfInBounds_toArray, List.set_cons_zero, List.set_cons_succ, i64_w, i32_w]
                              rfl
                            refine pure_ (i := 11) (N := some 47) (v := ?_) (a' := ?_) #[true, true, true, true, true, true, true, true, true, true, true, true] rfl rfl (any_of HT_.out (by kernel_rfl)) (fun _ _ _ h => h) (Or.inl ⟨by rfl, ?_⟩) ?_ ?_
                            rotate_left
                            · intro w'
                              go_simp
                              with_reducible rfl
                            rotate_left
                            · simp only [Act.put, List.setIfInBounds_toArray, List.set_cons_zero, List.set_cons_succ, i64_w, i32_w]
                              rfl
                            refine done_ (done_of HT_.out (by kernel_rfl)) ?_
                            have hcz26_0 : w25.cell? ⟨gb104, 0, none⟩ = some (.int .u64 ((rd_T29 l2 x29_1).f0)) := (blk_cell BK104.out 0).trans rfl
                            have hcz26_1 : w25.cell? ⟨gb104, 1, none⟩ = some (.int .u64 ((rd_T29 l2 x29_1).f1)) := (blk_cell BK104.out 1).trans rfl
                            have hfz26_0 := blk_frozen BK104.out 0
                            have hfz26_1 := blk_frozen BK104.out 1
                            try go_wp2_with (first | ((with_reducible refine gate_builtin (b := .append) (xs := #[.tmp 60, .tmp 62]) rfl ?_); at_builtin; refine Kd.R_append k29 (w0 := w4) w4.heap.size rfl (.tmp 60) (.tmp 62) 36 29 (.agg #[(.int .u64 0), (.int .u64 0)]) 16 rfl Try.underlying36 info29 rfl (by decide) (by omega) (.slice (some ad105) x7_1.length co23) x7_1 (⟨(rd_T29 l2 x29_1).f0, (rd_T29 l2 x29_1).f1⟩ : S29) [.int .u64 ((rd_T29 l2 x29_1).f0), .int .u64 ((rd_T29 l2 x29_1).f1)] (fun k_ => k_ ≠ gb104) (fun _ => False) rfl rfl ?aP (fun _ hk => hk.elim) ?aF ?aO ?aB ?aS ?aL ?_; (case aP => exact k29_mkM _ _ _ (⟨(rd_T29 l2 x29_1).f0, (rd_T29 l2 x29_1).f1⟩ : S29)); (case aB => exact (by repeat (first | (with_reducible first | exact HB.out | apply below_alloc | apply pw_below_drewN | apply below_drew1 | refine below_set ?_ GE104.out) | exact HB.out))); (case aF => exact (fun k_ hk => Kd.freshB (g := gb104) (o := .cells #[.int .u64 ((rd_T29 l2 x29_1).f0), .int .u64 ((rd_T29 l2 x29_1).f1)] 29 (0, 0)) (by (with_reducible repeat (first | refine blk_drewN ?_ _ | refine blk_drew ?_ | refine blk_alloc ?_ _)); exact BK104.out) k_ hk)); (case aO => exact (by (with_reducible repeat (first | apply Kd.R_alloc | apply Kd.R_drewN | apply Kd.R_drew)); exact HO_7.out)); (case aS => exact (below_size (by repeat (first | (with_reducible first | exact HB.out | apply below_alloc | apply pw_below_drewN | apply below_drew1 | refine below_set ?_ GE104.out) | exact HB.out)))); (case aL => have := LMc20.out; omega); intro v109 w27 ho hb hg hat; rw [← Ny108.out] at ho; have n0_ := Aside0.mk (blk_grown (g := gb104) (o := .cells #[.int .u64 ((rd_T29 l2 x29_1).f0), .int .u64 ((rd_T29 l2 x29_1).f1)] 29 (0, 0)) (by (with_reducible repeat (first | refine blk_drewN ?_ _ | refine blk_drew ?_ | refine blk_alloc ?_ _)); exact BK104.out) hg (Kd.R_away HO_7.out (fun _ hk => hk))); have n1_ := Aside0.mk (hb); have n2_ := Aside0.mk (ho); clear BK104; clear HB; clear HO_7; have BK104 := n0_; have HB := n1_; have HO110 := n2_; clear n0_ n1_ n2_; clear ho hb hg hat))
                            go_roundg k1
                            case measure => have := HK1.out; omega
                            case rel => exact ⟨(y108), (wrap64 (x29_1 + 1)), (by first | rfl | (simp; done) | (simp [*]; done)), H', ⟨by have := HK1.out; omega⟩, ⟨by (with_reducible repeat (first | apply Kd.R_alloc | apply Kd.R_drewN | apply Kd.R_drew)); exact Kd.R_mono HO110.out (fun _ hk => trivial)⟩, ⟨by repeat (first | (with_reducible first | exact HB.out | apply below_alloc | apply pw_below_drewN | apply below_drew1 | refine below_set ?_ GE104.out) | exact HB.out)⟩⟩
                          · rw [if_neg c20] at H
                            exact absurd H (by simp)
                      · rw [if_neg c9] at H
                        exact absurd H (by simp)
                    · rw [if_neg c8] at H
                      exact absurd H (by simp)
                  · rw [if_neg c6] at H
                    have c6b0 : decide (0 ≤ (wrap64 ((x7_1.length : Int) - 1))) = false := decide_eq_false c6
                    clear c6
                    by_cases c28 : x7_1.length < 8796093022208
                    · rw [if_pos c28] at H
                      have LMc28 := Aside0.mk c28
                      clear c28
                      obtain ⟨y111, hy111⟩ : ∃ y_ : List (S29), y_ = (x7_1 ++ [(⟨(rd_T29 l2 x29_1).f0, (rd_T29 l2 x29_1).f1⟩ : S29)]) := ⟨_, rfl⟩
                      replace H : (draw_merge.l0 k1 y111 l2 (l2.length : Int) (wrap64 (x29_1 + 1))) = some (r1, r2) := by first | (rw [hy111]; with_reducible exact H) | (have H2_ := (Option.bind_some _ _).symm.trans H; rw [hy111]; with_reducible exact H2_) | (have H2_ := (Option.bind_some _ _).symm.trans H; with_reducible exact H2_) | with_reducible exact H | (rw [hy111]; exact H) | exact H
                      have Ny111 := Aside0.mk hy111
                      clear hy111
                      have H' := Aside0.mk H
                      clear H
                      have p103 : 0 ≤ (x29_1 : Int) := of_decide_eq_true (by first | (with_reducible assumption) | assumption)
                      have q103 : x29_1 < (l2.length : Int) := of_decide_eq_true (by first | (with_reducible assumption) | assumption)
                      obtain ⟨ad103, e103, hx103_0, hx103_1⟩ := at_T29 HR1.out x29_1 p103 q103
                      cases e103
                      replace hx103_0 := (HB.out.cell (World.block_lt_of_cell? w4 _ hx103_0)).trans hx103_0
                      replace hx103_1 := (HB.out.cell (World.block_lt_of_cell? w4 _ hx103_1)).trans hx103_1
                      replace p103 := eq_true p103
                      replace q103 := eq_true q103
                      try go_wp2_with (first | ((with_reducible refine gate_dst (N := 9) rfl ?_); refine box_event ?hg (N := 9) ?hd (cs := #[.int .u64 0, .int .u64 0]) (t := 29) ?hr ?_; (case hd => rfl); (case hg => rfl); (case hr => first | (go_simp; done) | (go_simp; rfl)); intro gb104 hg w29 hbox hb; have n0_ := Aside0.mk (Kd.R_below (Kd.R_elderB (by (with_reducible repeat (first | apply Kd.R_alloc | apply Kd.R_drewN | apply Kd.R_drew)); exact HO_7.out) gb104 (Nat.le_of_eq hg.symm)) hb); have n1_ := Aside0.mk (below_step (by repeat (first | (with_reducible first | exact HB.out | apply below_alloc | apply pw_below_drewN | apply below_drew1) | exact HB.out)) hb); have n2_ := Aside0.mk (hbox); have n3_ := Aside0.mk ((by rw [hg]; exact (below_size (by repeat (first | (with_reducible first | exact HB.out | apply below_alloc | apply pw_below_drewN | apply below_drew1) | exact HB.out))) : w4.heap.size ≤ gb104)); have n4_ := Aside0.mk ((by rw [hg]; exact (below_size (by repeat (first | (with_reducible first | exact HB.out | apply below_alloc | apply pw_below_drewN | apply below_drew1) | exact HB.out))) : w4.heap.size ≤ gb104)); clear HO_7; clear HB; have HO_7 := n0_; have HB := n1_; have BK104 := n2_; have GW104 := n3_; have GE104 := n4_; clear n0_ n1_ n2_ n3_ n4_; clear hb hbox hg; have hcz30_0 : w29.cell? ⟨gb104, 0, none⟩ = some (.int .u64 0) := (blk_cell BK104.out 0).trans rfl; have hcz30_1 : w29.cell? ⟨gb104, 1, none⟩ = some (.int .u64 0) := (blk_cell BK104.out 1).trans rfl; have hfz30_0 := blk_frozen BK104.out 0; have hfz30_1 := blk_frozen BK104.out 1; obtain ⟨Ao31, co31, eo31⟩ := Kd.R_slice HO_7.out; subst eo31))
                      have n0_ : Aside0 (Kd.R k29 29 ((w29.setCell ⟨gb104, 0, none⟩ (.int .u64 ((rd_T29 l2 x29_1).f0))).setCell ⟨gb104, 1, none⟩ (.int .u64 ((rd_T29 l2 x29_1).f1))) w4.heap.size (fun k_ => k_ ≠ gb104) (.slice Ao31 x7_1.length co31) x7_1) := ⟨by (with_reducible repeat (first | apply Kd.R_alloc | apply Kd.R_drewN | apply Kd.R_drew)); exact Kd.R_mono (Kd.R_far (p := ⟨gb104, 1, none⟩) (Kd.R_far (p := ⟨gb104, 0, none⟩) (Kd.R_mono HO_7.out (fun k_ hk => (⟨hk, hk.2⟩ : _ ∧ k_ ≠ gb104))) (fun _ hk => hk.2) (.int .u64 ((rd_T29 l2 x29_1).f0))) (fun _ hk => hk.2) (.int .u64 ((rd_T29 l2 x29_1).f1))) (fun _ hk => hk.1.2)⟩
                      have n1_ : Aside0 (((w29.setCell ⟨gb104, 0, none⟩ (.int .u64 ((rd_T29 l2 x29_1).f0))).setCell ⟨gb104, 1, none⟩ (.int .u64 ((rd_T29 l2 x29_1).f1))).heap[gb104]? = some (.cells #[.int .u64 ((rd_T29 l2 x29_1).f0), .int .u64 ((rd_T29 l2 x29_1).f1)] 29 (0, 0))) := ⟨by (with_reducible repeat (first | refine blk_drewN ?_ _ | refine blk_drew ?_ | refine blk_alloc ?_ _)); refine blk_put (cs := #[.int .u64 ((rd_T29 l2 x29_1).f0), .int .u64 0]) ?_ 1 _ rfl; (with_reducible repeat (first | refine blk_drewN ?_ _ | refine blk_drew ?_ | refine blk_alloc ?_ _)); refine blk_put (cs := #[.int .u64 0, .int .u64 0]) ?_ 0 _ rfl; (with_reducible repeat (first | refine blk_drewN ?_ _ | refine blk_drew ?_ | refine blk_alloc ?_ _)); exact BK104.out⟩
                      have n2_ : Aside0 (Below w4.heap.size w4 ((w29.setCell ⟨gb104, 0, none⟩ (.int .u64 ((rd_T29 l2 x29_1).f0))).setCell ⟨gb104, 1, none⟩ (.int .u64 ((rd_T29 l2 x29_1).f1)))) := ⟨by repeat (first | (with_reducible first | exact HB.out | apply below_alloc | apply pw_below_drewN | apply below_drew1 | refine below_set ?_ GE104.out) | exact HB.out)⟩
                      (try clear HO_7)
                      (try clear BK104)
                      (try clear HB)
                      generalize ((w29.setCell ⟨gb104, 0, none⟩ (.int .u64 ((rd_T29 l2 x29_1).f0))).setCell ⟨gb104, 1, none⟩ (.int .u64 ((rd_T29 l2 x29_1).f1))) = w32 at n0_ n1_ n2_ ⊢
                      have HO_7 := n0_
                      have BK104 := n1_
                      have HB := n2_
                      clear n0_ n1_ n2_
                      have n0_ := Aside0.mk (Kd.R_drew HO_7.out)
                      have n1_ := Aside0.mk (blk_drew BK104.out)
                      have n2_ := Aside0.mk (below_drew1 HB.out)
                      clear HO_7
                      clear BK104
                      clear HB
                      have HO_7 := n0_
                      have BK104 := n1_
                      have HB := n2_
                      clear n0_ n1_ n2_
                      refine start_ (n := 12) (S := fun w' => True) (ds := []) #[false, false, false, false, false, false, false, false, false, false, false, false] (by kernel_rfl) rfl rfl trivial (fun hHeld => ?_); refine with_tabW draw_merge.tab14 draw_merge.bits14 (fun HT_ HW_ => ?_)
                      generalize w32.drew = w33 at HO_7 BK104 HB hHeld ⊢
                      refine pure_ (i := 0) (N := some 36) (v := ?_) (a' := ?_) #[true, false, false, false, false, false, false, false, false, false, false, false] rfl rfl (any_of HT_.out (by kernel_rfl)) (fun _ _ _ h => h) (Or.inl ⟨by rfl, ?_⟩) ?_ ?_
                      rotate_left
                      · intro w'
                        go_simp
                        with_reducible rfl
                      rotate_left
                      · simp only [Act.put, List.setIfInBounds_toArray, List.set_cons_zero, List.set_cons_succ, i64_w, i32_w]
                        rfl
                      refine pure_ (i := 1) (N := some 37) (v := ?_) (a' := ?_) #[true, true, false, false, false, false, false, false, false, false, false, false] rfl rfl (any_of HT_.out (by kernel_rfl)) (fun _ _ _ h => h) (Or.inl ⟨by rfl, ?_⟩) ?_ ?_
                      rotate_left
                      · intro w'
                        go_simp
                        with_reducible rfl
                      rotate_left
                      · simp only [Act.put, List.setIfInBounds_toArray, List.set_cons_zero, List.set_cons_succ, i64_w, i32_w]
                        rfl
                      refine pure_ (i := 2) (N := some 38) (v := ?_) (a' := ?_) #[true, true, true, false, false, false, false, false, false, false, false, false] rfl rfl (any_of HT_.out (by kernel_rfl)) (fun _ _ _ h => h) (Or.inl ⟨by rfl, ?_⟩) ?_ ?_
                      rotate_left
                      · intro w'
                        go_simp
                        with_reducible rfl
                      rotate_left
                      · simp only [Act.put, List.setIfInBounds_toArray, List.set_cons_zero, List.set_cons_succ, i64_w, i32_w]
                        rfl
                      refine pure_ (i := 3) (N := some 39) (v := undef) (a' := ?_) #[true, true, true, true, false, false, false, false, false, false, false, false] rfl rfl (any_of HT_.out (by kernel_rfl)) (fun _ _ _ h => h) (Or.inr ⟨by rfl, rfl⟩) ?_ ?_
                      rotate_left
                      · simp only [Act.put, List.setIfInBounds_toArray, List.set_cons_zero, List.set_cons_succ, i64_w, i32_w]
                        rfl
                      refine pure_ (i := 4) (N := some 40) (v := undef) (a' := ?_) #[true, true, true, true, true, false, false, false, false, false, false, false] rfl rfl (any_of HT_.out (by kernel_rfl)) (fun _ _ _ h => h) (Or.inr ⟨by rfl, rfl⟩) ?_ ?_
                      rotate_left
                      · simp only [Act.put, List.setIfInBounds_toArray, List.set_cons_zero, List.set_cons_succ, i64_w, i32_w]
                        rfl
                      refine pure_ (i := 5) (N := some 41) (v := undef) (a' := ?_) #[true, true, true, true, true, true, false, false, false, false, false, false] rfl rfl (any_of HT_.out (by kernel_rfl)) (fun _ _ _ h => h) (Or.inr ⟨by rfl, rfl⟩) ?_ ?_
                      rotate_left
                      · simp only [Act.put, List.setIfInBounds_toArray, List.set_cons_zero, List.set_cons_succ, i64_w, i32_w]
                        rfl
                      refine pure_ (i := 6) (N := some 42) (v := undef) (a' := ?_) #[true, true, true, true, true, true, true, false, false, false, false, false] rfl rfl (any_of HT_.out (by kernel_rfl)) (fun _ _ _ h => h) (Or.inr ⟨by rfl, rfl⟩) ?_ ?_
                      rotate_left
                      · simp only [Act.put, List.setIfInBounds_toArray, List.set_cons_zero, List.set_cons_succ, i64_w, i32_w]
                        rfl
                      refine pure_ (i := 7) (N := some 43) (v := undef) (a' := ?_) #[true, true, true, true, true, true, true, true, false, false, false, false] rfl rfl (any_of HT_.out (by kernel_rfl)) (fun _ _ _ h => h) (Or.inr ⟨by rfl, rfl⟩) ?_ ?_
                      rotate_left
                      · simp only [Act.put, List.setIfInBounds_toArray, List.set_cons_zero, List.set_cons_succ, i64_w, i32_w]
                        rfl
                      refine pure_ (i := 8) (N := some 44) (v := undef) (a' := ?_) #[true, true, true, true, true, true, true, true, true, false, false, false] rfl rfl (any_of HT_.out (by kernel_rfl)) (fun _ _ _ h => h) (Or.inr ⟨by rfl, rfl⟩) ?_ ?_
                      rotate_left
                      · simp only [Act.put, List.setIfInBounds_toArray, List.set_cons_zero, List.set_cons_succ, i64_w, i32_w]
                        rfl
                      refine pure_ (i := 9) (N := some 45) (v := undef) (a' := ?_) #[true, true, true, true, true, true, true, true, true, true, false, false] rfl rfl (any_of HT_.out (by kernel_rfl)) (fun _ _ _ h => h) (Or.inr ⟨by rfl, rfl⟩) ?_ ?_
                      rotate_left
                      · simp only [Act.put, List.setIfInBounds_toArray, List.set_cons_zero, List.set_cons_succ, i64_w, i32_w]
                        rfl
                      refine pure_ (i := 10) (N := some 46) (v := undef) (a' := ?_) #[true, true, true, true, true, true, true, true, true, true, true, false] rfl rfl (any_of HT_.out (by kernel_rfl)) (fun _ _ _ h => h) (Or.inr ⟨by rfl, rfl⟩) ?_ ?_
                      rotate_left
                      · simp only [Act.put, List.setIfInBounds_toArray, List.set_cons_zero, List.set_cons_succ, i64_w, i32_w]
                        rfl
                      refine pure_ (i := 11) (N := some 47) (v := ?_) (a' := ?_) #[true, true, true, true, true, true, true, true, true, true, true, true] rfl rfl (any_of HT_.out (by kernel_rfl)) (fun _ _ _ h => h) (Or.inl ⟨by rfl, ?_⟩) ?_ ?_
                      rotate_left
                      · intro w'
                        go_simp
                        with_reducible rfl
                      rotate_left
                      · simp only [Act.put, List.setIfInBounds_toArray, List.set_cons_zero, List.set_cons_succ, i64_w, i32_w]
                        rfl
                      refine done_ (done_of HT_.out (by kernel_rfl)) ?_
                      have hcz34_0 : w33.cell? ⟨gb104, 0, none⟩ = some (.int .u64 ((rd_T29 l2 x29_1).f0)) := (blk_cell BK104.out 0).trans rfl
                      have hcz34_1 : w33.cell? ⟨gb104, 1, none⟩ = some (.int .u64 ((rd_T29 l2 x29_1).f1)) := (blk_cell BK104.out 1).trans rfl
                      have hfz34_0 := blk_frozen BK104.out 0
                      have hfz34_1 := blk_frozen BK104.out 1
                      try go_wp2_with (first | ((with_reducible refine gate_builtin (b := .append) (xs := #[.tmp 60, .tmp 62]) rfl ?_); at_builtin; refine Kd.R_append k29 (w0 := w4) w4.heap.size rfl (.tmp 60) (.tmp 62) 36 29 (.agg #[(.int .u64 0), (.int .u64 0)]) 16 rfl Try.underlying36 info29 rfl (by decide) (by omega) (.slice Ao31 x7_1.length co31) x7_1 (⟨(rd_T29 l2 x29_1).f0, (rd_T29 l2 x29_1).f1⟩ : S29) [.int .u64 ((rd_T29 l2 x29_1).f0), .int .u64 ((rd_T29 l2 x29_1).f1)] (fun k_ => k_ ≠ gb104) (fun _ => False) rfl rfl ?aP (fun _ hk => hk.elim) ?aF ?aO ?aB ?aS ?aL ?_; (case aP => exact k29_mkM _ _ _ (⟨(rd_T29 l2 x29_1).f0, (rd_T29 l2 x29_1).f1⟩ : S29)); (case aB => exact (by repeat (first | (with_reducible first | exact HB.out | apply below_alloc | apply pw_below_drewN | apply below_drew1 | refine below_set ?_ GE104.out) | exact HB.out))); (case aF => exact (fun k_ hk => Kd.freshB (g := gb104) (o := .cells #[.int .u64 ((rd_T29 l2 x29_1).f0), .int .u64 ((rd_T29 l2 x29_1).f1)] 29 (0, 0)) (by (with_reducible repeat (first | refine blk_drewN ?_ _ | refine blk_drew ?_ | refine blk_alloc ?_ _)); exact BK104.out) k_ hk)); (case aO => exact (by (with_reducible repeat (first | apply Kd.R_alloc | apply Kd.R_drewN | apply Kd.R_drew)); exact HO_7.out)); (case aS => exact (below_size (by repeat (first | (with_reducible first | exact HB.out | apply below_alloc | apply pw_below_drewN | apply below_drew1 | refine below_set ?_ GE104.out) | exact HB.out)))); (case aL => have := LMc28.out; omega); intro v112 w35 ho hb hg hat; rw [← Ny111.out] at ho; have n0_ := Aside0.mk (blk_grown (g := gb104) (o := .cells #[.int .u64 ((rd_T29 l2 x29_1).f0), .int .u64 ((rd_T29 l2 x29_1).f1)] 29 (0, 0)) (by (with_reducible repeat (first | refine blk_drewN ?_ _ | refine blk_drew ?_ | refine blk_alloc ?_ _)); exact BK104.out) hg (Kd.R_away HO_7.out (fun _ hk => hk))); have n1_ := Aside0.mk (hb); have n2_ := Aside0.mk (ho); clear BK104; clear HB; clear HO_7; have BK104 := n0_; have HB := n1_; have HO113 := n2_; clear n0_ n1_ n2_; clear ho hb hg hat))
                      go_roundg k1
                      case measure => have := HK1.out; omega
                      case rel => exact ⟨(y111), (wrap64 (x29_1 + 1)), (by first | rfl | (simp; done) | (simp [*]; done)), H', ⟨by have := HK1.out; omega⟩, ⟨by (with_reducible repeat (first | apply Kd.R_alloc | apply Kd.R_drewN | apply Kd.R_drew)); exact Kd.R_mono HO113.out (fun _ hk => trivial)⟩, ⟨by repeat (first | (with_reducible first | exact HB.out | apply below_alloc | apply pw_below_drewN | apply below_drew1 | refine below_set ?_ GE104.out) | exact HB.out)⟩⟩
                    · rw [if_neg c28] at H
                      exact absurd H (by simp)
                · rw [if_neg c5] at H
                  exact absurd H (by simp)
              · rw [if_neg c4] at H
                exact absurd H (by simp)
            · rw [if_neg c3] at H
              have c3b0 : decide (x29_1 < (l2.length : Int)) = false := decide_eq_false c3
              clear c3
              simp only [Option.some.injEq, Prod.mk.injEq] at H
              obtain ⟨rfl, rfl⟩ := H
              go_wp2
              (try rw [Exit.noGoto_ret])
              go_ret2
              exact ⟨_, by first | rfl | (simp [errW_none, errW_some] <;> rfl) | (simp [*, errW_none, errW_some] <;> rfl), Kd.R_lower (w := _) (base := w4.heap.size) (by (with_reducible repeat (first | apply Kd.R_alloc | apply Kd.R_drewN | apply Kd.R_drew)); exact HO_7.out) HB4.out.size, HB4.out.trans (Below.mono (B := w4.heap.size) (by repeat (first | (with_reducible first | exact HB.out | apply below_alloc | apply pw_below_drewN | apply below_drew1) | exact HB.out)) HB4.out.size)⟩
    · have cd : decide ((2048 : Int) < (l1.length : Int)) = true := decide_eq_true (by omega)
      rw [draw_whole.f, if_pos ch, if_neg cl] at h
      simp only [Option.some.injEq, Prod.mk.injEq] at h
      obtain ⟨rfl, rfl⟩ := h
      clear hr1
      go_enter Try.func37, Try.ntmps37
      go_wp2
      go_step3
      go_wp2_with (first | (go_at_call 27; (with_reducible refine (hhi _ rfl).mono ?_); rintro e w1 ⟨rfl, HR1, HX1, HB1, HS1⟩))
      (try rw [Exit.noGoto_ret])
      go_ret2
      exact ⟨_, rfl, Kd.R_nil _ _ _ _ _, HB1.out⟩
  · have hh : draw_high.f a0 = some false := by
      unfold draw_high.f
      by_cases c0 : a0 ≥ 0
      · rw [if_pos c0]; congr 1; exact decide_eq_false (by omega)
      · rw [if_neg c0]
    have hhi := hhigh false hh
    clear hhigh
    rw [draw_whole.f, if_neg ch] at h
    simp only [Option.some.injEq, Prod.mk.injEq] at h
    obtain ⟨rfl, rfl⟩ := h
    clear hr1
    go_enter Try.func37, Try.ntmps37
    go_wp2
    go_step3
    go_wp2_with (first | (go_at_call 27; (with_reducible refine (hhi _ rfl).mono ?_); rintro e w1 ⟨rfl, HR1, HX1, HB1, HS1⟩))
    (try rw [Exit.noGoto_ret])
    go_ret2
    exact ⟨_, rfl, Kd.R_nil _ _ _ _ _, HB1.out⟩
end Go.Proofs.Ytaeaacdjiijooaa.Pr

-- Written by wip/tools/myprint.py (a print of the translation, turned). Not trusted: Lean checks it.
namespace Go.Proofs.Ytaeaacdjiijooaa.Pr
open Go.RowKit Go.Proofs.YtaeaacdjiijooaaW.PrintWords Go.Proofs.YtaeaacdjiijooaaW.PrintLast Go.Proofs.YtaeaacdjiijooaaW.PrintMore
attribute [local go_sem] max2_int min2_int max_two min_two max_three min_three max_four min_four   -- for this text's walks alone
set_option linter.unusedVariables false
set_option linter.unusedSimpArgs false

/-! ### draw_Gaps: function 21 -/
def draw_Gaps.l0 : Nat → List (S29) → Int → List (S29) → Int → Int → Option ((List (S29)) × Int)
  | 0, _, _, _, _, _ => none
  | k + 1, x8, x9, x26, x27, x28 => if x28 < x27 then (if 0 ≤ x28 then (if x28 < (x26.length : Int) then (if ((rd_T29 x26 x28).f0) > x9 then (if x8.length < 8796093022208 then (draw_Gaps.l0 k (x8 ++ [(⟨x9, (rd_T29 x26 x28).f0⟩ : S29)]) ((rd_T29 x26 x28).f1) x26 x27 (wrap64 (x28 + 1))) else (none)) else (draw_Gaps.l0 k x8 ((rd_T29 x26 x28).f1) x26 x27 (wrap64 (x28 + 1)))) else (none)) else (none)) else (some (x8, 0))
def draw_Gaps.f (k : Nat) (a0 : Int) (l1 : List (S29)) : Option ((List (S29)) × Int) := (draw_whole.f k a0 l1).bind fun bt177 => (if bt177.2 = 0 then (if 0 ≤ a0 then (if bt177.1.length < 8796093022208 then ((some (bt177.1 ++ [(⟨shl .u64 1 a0, 0⟩ : S29)] : List (S29))).bind fun y181 => (draw_Gaps.l0 k ([] : List (S29)) 0 y181 (y181.length : Int) 0)) else (none)) else (none)) else (some (([] : List (S29)), bt177.2)))
theorem draw_Gaps.mono_l : ∀ k, (∀ y0 y1 y2 y3 y4, LeO (draw_Gaps.l0 k y0 y1 y2 y3 y4) (draw_Gaps.l0 (k + 1) y0 y1 y2 y3 y4))
  | 0 => fun _ _ _ _ _ r h => by simp [draw_Gaps.l0] at h
  | k + 1 => by
    have ih0 := draw_Gaps.mono_l k
    · intro y0 y1 y2 y3 y4
      unfold draw_Gaps.l0
      repeat' first
      | (with_reducible exact ih0 _ _ _ _ _)
      | (with_reducible exact draw_whole.mono _ _ _)
      | (with_reducible exact LeO.refl _)
      | (with_reducible exact LeO.none _)
      | (with_reducible refine LeO.ite ?_ ?_)
      | (with_reducible refine LeO.bind ?_ (fun _ => ?_))
      | exact ih0 _ _ _ _ _
      | exact draw_whole.mono _ _ _
      | exact LeO.none _
      | refine LeO.ite ?_ ?_
      | refine LeO.bind ?_ (fun _ => ?_)
theorem draw_Gaps.mono : ∀ a0 a1 k, LeO (draw_Gaps.f k a0 a1) (draw_Gaps.f (k + 1) a0 a1) := by
  intro a0 a1 k
  have ih0 := draw_Gaps.mono_l k
  unfold draw_Gaps.f
  repeat' first
      | (with_reducible exact ih0 _ _ _ _ _)
      | (with_reducible exact draw_whole.mono _ _ _)
      | (with_reducible exact LeO.refl _)
      | (with_reducible exact LeO.none _)
      | (with_reducible refine LeO.ite ?_ ?_)
      | (with_reducible refine LeO.bind ?_ (fun _ => ?_))
      | exact ih0 _ _ _ _ _
      | exact draw_whole.mono _ _ _
      | exact LeO.none _
      | refine LeO.ite ?_ ?_
      | refine LeO.bind ?_ (fun _ => ?_)
set_option maxHeartbeats 8000000 in
set_option maxRecDepth 100000 in
theorem draw_Gaps.calls (k : Nat) (a0 : Int) (A1 : Option Addr) (c1 : Nat) (l1 : List (S29)) (r1 : List (S29)) (r2 : Int) (w : World) (hr1 : Kd.C k29 w A1 l1.length l1) (hc1 : l1.length ≤ c1) (h : draw_Gaps.f k a0 l1 = some (r1, r2)) :
    Calls Try.prog 21 #[.int .i64 a0, .slice A1 l1.length c1] w fun e w' => ∃ v0_ : Value, e = .returned (.tuple #[v0_, .int .i64 r2]) ∧ Kd.R k29 29 w' w.heap.size (fun _ => True) v0_ r1 ∧ Below w.heap.size w w' := by
  have hu29 := Try.underlying29
  have HR1 := Aside0.mk hr1
  have HC1 := Aside0.mk hc1
  clear hr1 hc1
  have HB := Aside0.mk (Below.refl w.heap.size w)
  have H : ((draw_whole.f k a0 l1).bind fun bt177 => (if bt177.2 = 0 then (if 0 ≤ a0 then (if bt177.1.length < 8796093022208 then ((some (bt177.1 ++ [(⟨shl .u64 1 a0, 0⟩ : S29)] : List (S29))).bind fun y181 => (draw_Gaps.l0 k ([] : List (S29)) 0 y181 (y181.length : Int) 0)) else (none)) else (none)) else (some (([] : List (S29)), bt177.2)))) = some (r1, r2) := h
  clear h
  replace H := Option.bind_eq_some_iff.mp H
  obtain ⟨⟨t177, t178⟩, A30, H⟩ := H
  replace H : (if t178 = 0 then (if 0 ≤ a0 then (if t177.length < 8796093022208 then ((some (t177 ++ [(⟨shl .u64 1 a0, 0⟩ : S29)] : List (S29))).bind fun y181 => (draw_Gaps.l0 k ([] : List (S29)) 0 y181 (y181.length : Int) 0)) else (none)) else (none)) else (some (([] : List (S29)), t178))) = some (r1, r2) := H
  have A3 := Aside0.mk A30
  clear A30
  by_cases c4 : t178 = 0
  · rw [if_pos c4] at H
    have c4b0 : (t178 == 0) = true := beq_iff_eq.mpr c4
    have c4b1 : (t178 != 0) = false := bne_eq_false_iff_eq.mpr c4
    clear c4
    by_cases c5 : 0 ≤ a0
    · rw [if_pos c5] at H
      have c5b0 := eq_true c5
      have c5b1 : decide (0 ≤ a0) = true := decide_eq_true c5
      clear c5
      obtain ⟨ji6, hji6⟩ : ∃ j_ : Int, (shl .u64 1 a0) = j_ := ⟨_, rfl⟩
      replace H : (if t177.length < 8796093022208 then ((some (t177 ++ [(⟨ji6, 0⟩ : S29)] : List (S29))).bind fun y181 => (draw_Gaps.l0 k ([] : List (S29)) 0 y181 (y181.length : Int) 0)) else (none)) = some (r1, r2) := by first | (rw [hji6] at H; exact H) | (simp only [hji6] at H ⊢; exact H)
      (try rw [hji6] at A3)
      have hji6_ : (IntKind.u64.wrap (1 * 2 ^ min a0.toNat 64)) = ji6 := hji6
      have hji6z : a0 ≤ 64 → (IntKind.u64.wrap (1 * 2 ^ a0.toNat)) = ji6 := shl_small hji6
      have hji6u : (IntKind.u64.wrap (2 ^ min a0.toNat 64)) = ji6 := by have h_ := hji6_; rw [Int.one_mul] at h_; exact h_
      have hji6v : a0 ≤ 64 → (IntKind.u64.wrap (2 ^ a0.toNat)) = ji6 := fun hle_ => by have h_ := hji6z hle_; rw [Int.one_mul] at h_; exact h_
      by_cases c7 : t177.length < 8796093022208
      · rw [if_pos c7] at H
        have LMc7 := Aside0.mk c7
        clear c7
        obtain ⟨y181, hy181⟩ : ∃ y_ : List (S29), y_ = (t177 ++ [(⟨ji6, 0⟩ : S29)]) := ⟨_, rfl⟩
        replace H : (draw_Gaps.l0 k ([] : List (S29)) 0 y181 (y181.length : Int) 0) = some (r1, r2) := by first | (rw [hy181]; with_reducible exact H) | (have H2_ := (Option.bind_some _ _).symm.trans H; rw [hy181]; with_reducible exact H2_) | (have H2_ := (Option.bind_some _ _).symm.trans H; with_reducible exact H2_) | with_reducible exact H | (rw [hy181]; exact H) | exact H
        have Ny181 := Aside0.mk hy181
        clear hy181
        have H' := Aside0.mk H
        clear H
        go_enter Try.func21, Try.ntmps21
        go_wp2_with (first | ((with_reducible refine gate_callee (f := 37) rfl ?_); refine goesL_ (some 15) rfl rfl Try.func37 (by kernel_rfl) rfl #[.int .i64 a0, .slice A1 l1.length c1] rfl (by (try simp only [List.map_toArray, List.map_cons, List.map_nil]); first | done | rfl | (simp only [List.length_drop, List.length_take]; rfl)) ?_; (with_reducible refine (draw_whole.calls k a0 _ _ l1 t177 t178 _ ?side1 ?side2 A3.out).mono ?_); (case side1 => repeat (first | exact HR1.out | (with_reducible refine Kd.C_alloc ?_ _) | (with_reducible refine Kd.C_drewN ?_ _) | (with_reducible refine Kd.C_drew ?_))); (case side2 => exact HC1.out); rintro e w8 ⟨v179, rfl, ho0, hb⟩; refine ⟨_, rfl, ?_⟩; have n0_ := Aside0.mk (Kd.R_lower ho0 (below_size (by repeat (first | (with_reducible first | exact HB.out | apply below_alloc | apply pw_below_drewN | apply below_drew1) | exact HB.out)))); have n1_ := Aside0.mk (below_step (by repeat (first | (with_reducible first | exact HB.out | apply below_alloc | apply pw_below_drewN | apply below_drew1) | exact HB.out)) hb); clear HB; have HO180 := n0_; have HB := n1_; clear n0_ n1_; (try clear hb); (try clear hb2); (try clear hk); (try clear hi); (try clear ho0)) | ((with_reducible refine gate_builtin (b := .append) (xs := #[.tmp 21, .tmp 25]) rfl ?_); at_builtin; refine Kd.R_append k29 (w0 := w) w.heap.size rfl (.tmp 21) (.tmp 25) 36 29 (.agg #[(.int .u64 0), (.int .u64 0)]) 16 rfl Try.underlying36 info29 rfl (by decide) (by omega) v179 t177 (⟨ji6, 0⟩ : S29) [.int .u64 ji6, .int .u64 0] (fun _ => True) (fun _ => False) rfl rfl ?aP (fun _ hk => hk.elim) ?aF ?aO ?aB ?aS ?aL ?_; (case aP => exact k29_mkM _ _ _ (⟨ji6, 0⟩ : S29)); (case aB => exact (by repeat (first | (with_reducible first | exact HB.out | apply below_alloc | apply pw_below_drewN | apply below_drew1) | exact HB.out))); (case aF => exact (fun _ _ => trivial)); (case aO => exact (by (with_reducible repeat (first | apply Kd.R_alloc | apply Kd.R_drewN | apply Kd.R_drew)); exact HO180.out)); (case aS => exact (below_size (by repeat (first | (with_reducible first | exact HB.out | apply below_alloc | apply pw_below_drewN | apply below_drew1) | exact HB.out)))); (case aL => have := LMc7.out; omega); intro v182 w9 ho hb hg hat; rw [← Ny181.out] at ho; have n0_ := Aside0.mk (hb); have n1_ := Aside0.mk (ho); clear HB; clear HO180; have HB := n0_; have HO183 := n1_; clear n0_ n1_; clear ho hb hg hat; obtain ⟨Ao10, co10, eo10⟩ := Kd.R_slice HO183.out; subst eo10))
        go_loopg [8, 9, 28] k (fun kq v8 v9 v28 w' => ∃ (x8_1 : List (S29)) (x9_1 : Int) (x28_1 : Int), v9 = .int .u64 x9_1 ∧ v28 = .int .i64 x28_1 ∧ Aside0 (draw_Gaps.l0 kq x8_1 x9_1 y181 (y181.length : Int) x28_1 = some (r1, r2)) ∧ Aside0 (kq ≤ k) ∧ Aside0 (Kd.R k29 29 w' w.heap.size (fun k_ => some k_ ≠ ((.slice Ao10 y181.length co10) : Value).ownBlock) v8 x8_1) ∧ Aside0 (Kd.R k29 29 w' w.heap.size (fun k_ => some k_ ≠ (v8 : Value).ownBlock) (.slice Ao10 y181.length co10) y181) ∧ Aside0 (Below w.heap.size w w'))
        case atStart => exact ⟨(([] : List (S29))), (0), (0), (by first | rfl | (simp; done) | (simp [*]; done)), (by first | rfl | (simp; done) | (simp [*]; done)), H', ⟨Nat.le_refl _⟩, ⟨by first | exact Kd.R_nil _ _ _ _ _ | exact Kd.N_nil _ _ _ _ _ | exact Kd.V_nil _ _ _ _ _ | exact Kd.Q_nil _ _ _ _ _ | exact Kd.S_nil _ _ _ _ _⟩, ⟨by (with_reducible repeat (first | apply Kd.R_alloc | apply Kd.R_drewN | apply Kd.R_drew)); exact Kd.R_mono HO183.out (fun _ hk => (by simp [Value.ownBlock]))⟩, ⟨by repeat (first | (with_reducible first | exact HB.out | apply below_alloc | apply pw_below_drewN | apply below_drew1) | exact HB.out)⟩⟩
        case round =>
          clear H'
          try clear c1
          try clear c2
          try clear p2
          try clear c3
          try clear c4
          try clear c4b0
          try clear c4b1
          try clear c5
          try clear c5b0
          try clear c5b1
          try clear c7
          obtain ⟨x8_1, x9_1, x28_1, rfl, rfl, HA, HK1, HO_8, HO_26, HB⟩ := hrel
          cases gk with
          | zero => exact absurd HA.out (by simp [draw_Gaps.l0])
          | succ k1 =>
            have H := HA.out
            clear HA
            simp only [draw_Gaps.l0] at H
            by_cases c11 : x28_1 < (y181.length : Int)
            · rw [if_pos c11] at H
              have c11b0 : decide (x28_1 < (y181.length : Int)) = true := decide_eq_true c11
              clear c11
              by_cases c12 : 0 ≤ x28_1
              · rw [if_pos c12] at H
                have c12b0 : decide (0 ≤ x28_1) = true := decide_eq_true c12
                clear c12
                by_cases c13 : x28_1 < (y181.length : Int)
                · rw [if_pos c13] at H
                  have c13b0 : decide (x28_1 < (y181.length : Int)) = true := decide_eq_true c13
                  clear c13
                  by_cases c14 : ((rd_T29 y181 x28_1).f0) > x9_1
                  · rw [if_pos c14] at H
                    have c14b0 : decide (x9_1 < ((rd_T29 y181 x28_1).f0)) = true := decide_eq_true c14
                    clear c14
                    by_cases c15 : x8_1.length < 8796093022208
                    · rw [if_pos c15] at H
                      have LMc15 := Aside0.mk c15
                      clear c15
                      obtain ⟨y186, hy186⟩ : ∃ y_ : List (S29), y_ = (x8_1 ++ [(⟨x9_1, (rd_T29 y181 x28_1).f0⟩ : S29)]) := ⟨_, rfl⟩
                      replace H : (draw_Gaps.l0 k1 y186 ((rd_T29 y181 x28_1).f1) y181 (y181.length : Int) (wrap64 (x28_1 + 1))) = some (r1, r2) := by first | (rw [hy186]; with_reducible exact H) | (have H2_ := (Option.bind_some _ _).symm.trans H; rw [hy186]; with_reducible exact H2_) | (have H2_ := (Option.bind_some _ _).symm.trans H; with_reducible exact H2_) | with_reducible exact H | (rw [hy186]; exact H) | exact H
                      have Ny186 := Aside0.mk hy186
                      clear hy186
                      have H' := Aside0.mk H
                      clear H
                      have p184 : 0 ≤ (x28_1 : Int) := of_decide_eq_true (by first | (with_reducible assumption) | assumption)
                      have q184 : x28_1 < (y181.length : Int) := of_decide_eq_true (by first | (with_reducible assumption) | assumption)
                      obtain ⟨ad184, e184, hx184_0, hx184_1⟩ := at_T29 (Kd.R_reads' HO_26.out).2.2 x28_1 p184 q184
                      cases e184
                      replace p184 := eq_true p184
                      replace q184 := eq_true q184
                      go_wp2_with (first | ((with_reducible refine gate_dst (N := 11) rfl ?_); refine box_event ?hg (N := 11) ?hd (cs := #[.int .u64 0, .int .u64 0]) (t := 29) ?hr ?_; (case hd => rfl); (case hg => rfl); (case hr => first | (go_simp; done) | (go_simp; rfl)); intro gb185 hg w16 hbox hb; have n0_ := Aside0.mk (Kd.R_below (Kd.R_elderB (by (with_reducible repeat (first | apply Kd.R_alloc | apply Kd.R_drewN | apply Kd.R_drew)); exact HO_8.out) gb185 (Nat.le_of_eq hg.symm)) hb); have n1_ := Aside0.mk (Kd.R_below (Kd.R_elderB (by (with_reducible repeat (first | apply Kd.R_alloc | apply Kd.R_drewN | apply Kd.R_drew)); exact HO_26.out) gb185 (Nat.le_of_eq hg.symm)) hb); have n2_ := Aside0.mk (below_step (by repeat (first | (with_reducible first | exact HB.out | apply below_alloc | apply pw_below_drewN | apply below_drew1) | exact HB.out)) hb); have n3_ := Aside0.mk (hbox); have n4_ := Aside0.mk ((by rw [hg]; exact (below_size (by repeat (first | (with_reducible first | exact HB.out | apply below_alloc | apply pw_below_drewN | apply below_drew1) | exact HB.out))) : w.heap.size ≤ gb185)); have n5_ := Aside0.mk ((by rw [hg]; exact (below_size (by repeat (first | (with_reducible first | exact HB.out | apply below_alloc | apply pw_below_drewN | apply below_drew1) | exact HB.out))) : w.heap.size ≤ gb185)); clear HO_8; clear HO_26; clear HB; have HO_8 := n0_; have HO_26 := n1_; have HB := n2_; have BK185 := n3_; have GW185 := n4_; have GE185 := n5_; clear n0_ n1_ n2_ n3_ n4_ n5_; clear hb hbox hg; have hcz17_0 : w16.cell? ⟨gb185, 0, none⟩ = some (.int .u64 0) := (blk_cell BK185.out 0).trans rfl; have hcz17_1 : w16.cell? ⟨gb185, 1, none⟩ = some (.int .u64 0) := (blk_cell BK185.out 1).trans rfl; have hfz17_0 := blk_frozen BK185.out 0; have hfz17_1 := blk_frozen BK185.out 1) | ((with_reducible refine gate_builtin (b := .append) (xs := #[.tmp 36, .tmp 41]) rfl ?_); at_builtin; refine Kd.R_append k29 (w0 := w) w.heap.size rfl (.tmp 36) (.tmp 41) 36 29 (.agg #[(.int .u64 0), (.int .u64 0)]) 16 rfl Try.underlying36 info29 rfl (by decide) (by omega) u8 x8_1 (⟨x9_1, (rd_T29 y181 x28_1).f0⟩ : S29) [.int .u64 x9_1, .int .u64 ((rd_T29 y181 x28_1).f0)] (fun k_ => some k_ ≠ (.slice (some ad184) y181.length co10 : Value).ownBlock ∧ k_ ≠ gb185) (fun _ => False) rfl (by first | (go_simp; done) | (go_simp; rfl)) ?aP (fun _ hk => hk.elim) ?aF ?aO ?aB ?aS ?aL ?_; (case aP => exact k29_mkM _ _ _ (⟨x9_1, (rd_T29 y181 x28_1).f0⟩ : S29)); (case aB => exact (by repeat (first | (with_reducible first | exact HB.out | apply below_alloc | apply pw_below_drewN | apply below_drew1 | refine below_set ?_ GE185.out) | exact HB.out))); (case aF => exact (fun k_ hk => ⟨Kd.fresh' (Kd.R_lt (by (with_reducible repeat (first | apply Kd.R_alloc | apply Kd.R_drewN | apply Kd.R_drew)); exact (Kd.R_mono (Kd.R_far (p := ⟨gb185, 1, none⟩) (Kd.R_far (p := ⟨gb185, 0, none⟩) (Kd.R_mono HO_26.out (fun k_ hk => (⟨hk, hk.2⟩ : _ ∧ k_ ≠ gb185))) (fun _ hk => hk.2) (.int .u64 ((rd_T29 y181 x28_1).f0))) (fun _ hk => hk.2) (.int .u64 ((rd_T29 y181 x28_1).f1))) (fun _ h_ => h_.1)))) k_ hk, Kd.freshB (g := gb185) (o := .cells #[.int .u64 ((rd_T29 y181 x28_1).f0), .int .u64 ((rd_T29 y181 x28_1).f1)] 29 (0, 0)) (by (with_reducible repeat (first | refine blk_drewN ?_ _ | refine blk_drew ?_ | refine blk_alloc ?_ _)); refine blk_put (cs := #[.int .u64 ((rd_T29 y181 x28_1).f0), .int .u64 0]) ?_ 1 _ rfl; (with_reducible repeat (first | refine blk_drewN ?_ _ | refine blk_drew ?_ | refine blk_alloc ?_ _)); refine blk_put (cs := #[.int .u64 0, .int .u64 0]) ?_ 0 _ rfl; (with_reducible repeat (first | refine blk_drewN ?_ _ | refine blk_drew ?_ | refine blk_alloc ?_ _)); exact BK185.out) k_ hk⟩)); (case aO => exact (by (with_reducible repeat (first | apply Kd.R_alloc | apply Kd.R_drewN | apply Kd.R_drew)); exact Kd.R_mono (Kd.R_far (p := ⟨gb185, 1, none⟩) (Kd.R_far (p := ⟨gb185, 0, none⟩) (Kd.R_mono HO_8.out (fun k_ hk => (⟨hk, hk.2⟩ : _ ∧ k_ ≠ gb185))) (fun _ hk => hk.2) (.int .u64 ((rd_T29 y181 x28_1).f0))) (fun _ hk => hk.2) (.int .u64 ((rd_T29 y181 x28_1).f1))) (fun _ hk => ⟨hk.1.1, hk.1.2⟩))); (case aS => exact (below_size (by repeat (first | (with_reducible first | exact HB.out | apply below_alloc | apply pw_below_drewN | apply below_drew1 | refine below_set ?_ GE185.out) | exact HB.out)))); (case aL => have := LMc15.out; omega); intro v187 w18 ho hb hg hat; rw [← Ny186.out] at ho; have n0_ := Aside0.mk (Kd.R_after (ok := (fun k_ => k_ ≠ gb185)) (by (with_reducible repeat (first | apply Kd.R_alloc | apply Kd.R_drewN | apply Kd.R_drew)); exact Kd.R_mono (Kd.R_far (p := ⟨gb185, 1, none⟩) (Kd.R_far (p := ⟨gb185, 0, none⟩) (Kd.R_mono HO_26.out (fun k_ hk => (⟨hk, hk.2⟩ : _ ∧ k_ ≠ gb185))) (fun _ hk => hk.2) (.int .u64 ((rd_T29 y181 x28_1).f0))) (fun _ hk => hk.2) (.int .u64 ((rd_T29 y181 x28_1).f1))) (fun _ hk => ⟨hk.1.2, hk.1.1⟩)) hg hat); have n1_ := Aside0.mk (blk_grown (g := gb185) (o := .cells #[.int .u64 ((rd_T29 y181 x28_1).f0), .int .u64 ((rd_T29 y181 x28_1).f1)] 29 (0, 0)) (by (with_reducible repeat (first | refine blk_drewN ?_ _ | refine blk_drew ?_ | refine blk_alloc ?_ _)); refine blk_put (cs := #[.int .u64 ((rd_T29 y181 x28_1).f0), .int .u64 0]) ?_ 1 _ rfl; (with_reducible repeat (first | refine blk_drewN ?_ _ | refine blk_drew ?_ | refine blk_alloc ?_ _)); refine blk_put (cs := #[.int .u64 0, .int .u64 0]) ?_ 0 _ rfl; (with_reducible repeat (first | refine blk_drewN ?_ _ | refine blk_drew ?_ | refine blk_alloc ?_ _)); exact BK185.out) hg (Kd.R_away HO_8.out (fun _ hk => hk.2))); have n2_ := Aside0.mk (hb); have n3_ := Aside0.mk (ho); clear HO_26; clear BK185; clear HB; clear HO_8; have HO_26 := n0_; have BK185 := n1_; have HB := n2_; have HO188 := n3_; clear n0_ n1_ n2_ n3_; clear ho hb hg hat; have hcz19_0 : w18.cell? ⟨gb185, 0, none⟩ = some (.int .u64 ((rd_T29 y181 x28_1).f0)) := (blk_cell BK185.out 0).trans rfl; have hcz19_1 : w18.cell? ⟨gb185, 1, none⟩ = some (.int .u64 ((rd_T29 y181 x28_1).f1)) := (blk_cell BK185.out 1).trans rfl; have hfz19_0 := blk_frozen BK185.out 0; have hfz19_1 := blk_frozen BK185.out 1))
                      go_roundg k1
                      case measure => have := HK1.out; omega
                      case rel => exact ⟨(y186), ((rd_T29 y181 x28_1).f1), (wrap64 (x28_1 + 1)), (by first | rfl | (simp; done) | (simp [*]; done)), (by first | rfl | (simp; done) | (simp [*]; done)), H', ⟨by have := HK1.out; omega⟩, ⟨by (with_reducible repeat (first | apply Kd.R_alloc | apply Kd.R_drewN | apply Kd.R_drew)); exact Kd.R_mono HO188.out (fun _ hk => hk.1)⟩, ⟨by (with_reducible repeat (first | apply Kd.R_alloc | apply Kd.R_drewN | apply Kd.R_drew)); exact Kd.R_mono HO_26.out (fun _ hk => hk.2)⟩, ⟨by repeat (first | (with_reducible first | exact HB.out | apply below_alloc | apply pw_below_drewN | apply below_drew1 | refine below_set ?_ GE185.out) | exact HB.out)⟩⟩
                    · rw [if_neg c15] at H
                      exact absurd H (by simp)
                  · rw [if_neg c14] at H
                    have c14b0 : decide (x9_1 < ((rd_T29 y181 x28_1).f0)) = false := decide_eq_false c14
                    clear c14
                    have H' := Aside0.mk H
                    clear H
                    have p184 : 0 ≤ (x28_1 : Int) := of_decide_eq_true (by first | (with_reducible assumption) | assumption)
                    have q184 : x28_1 < (y181.length : Int) := of_decide_eq_true (by first | (with_reducible assumption) | assumption)
                    obtain ⟨ad184, e184, hx184_0, hx184_1⟩ := at_T29 (Kd.R_reads' HO_26.out).2.2 x28_1 p184 q184
                    cases e184
                    replace p184 := eq_true p184
                    replace q184 := eq_true q184
                    go_wp2_with (first | ((with_reducible refine gate_dst (N := 11) rfl ?_); refine box_event ?hg (N := 11) ?hd (cs := #[.int .u64 0, .int .u64 0]) (t := 29) ?hr ?_; (case hd => rfl); (case hg => rfl); (case hr => first | (go_simp; done) | (go_simp; rfl)); intro gb185 hg w20 hbox hb; have n0_ := Aside0.mk (Kd.R_below (Kd.R_elderB (by (with_reducible repeat (first | apply Kd.R_alloc | apply Kd.R_drewN | apply Kd.R_drew)); exact HO_8.out) gb185 (Nat.le_of_eq hg.symm)) hb); have n1_ := Aside0.mk (Kd.R_below (Kd.R_elderB (by (with_reducible repeat (first | apply Kd.R_alloc | apply Kd.R_drewN | apply Kd.R_drew)); exact HO_26.out) gb185 (Nat.le_of_eq hg.symm)) hb); have n2_ := Aside0.mk (below_step (by repeat (first | (with_reducible first | exact HB.out | apply below_alloc | apply pw_below_drewN | apply below_drew1) | exact HB.out)) hb); have n3_ := Aside0.mk (hbox); have n4_ := Aside0.mk ((by rw [hg]; exact (below_size (by repeat (first | (with_reducible first | exact HB.out | apply below_alloc | apply pw_below_drewN | apply below_drew1) | exact HB.out))) : w.heap.size ≤ gb185)); have n5_ := Aside0.mk ((by rw [hg]; exact (below_size (by repeat (first | (with_reducible first | exact HB.out | apply below_alloc | apply pw_below_drewN | apply below_drew1) | exact HB.out))) : w.heap.size ≤ gb185)); clear HO_8; clear HO_26; clear HB; have HO_8 := n0_; have HO_26 := n1_; have HB := n2_; have BK185 := n3_; have GW185 := n4_; have GE185 := n5_; clear n0_ n1_ n2_ n3_ n4_ n5_; clear hb hbox hg; have hcz21_0 : w20.cell? ⟨gb185, 0, none⟩ = some (.int .u64 0) := (blk_cell BK185.out 0).trans rfl; have hcz21_1 : w20.cell? ⟨gb185, 1, none⟩ = some (.int .u64 0) := (blk_cell BK185.out 1).trans rfl; have hfz21_0 := blk_frozen BK185.out 0; have hfz21_1 := blk_frozen BK185.out 1))
                    go_roundg k1
                    case measure => have := HK1.out; omega
                    case rel => exact ⟨(x8_1), ((rd_T29 y181 x28_1).f1), (wrap64 (x28_1 + 1)), (by first | rfl | (simp; done) | (simp [*]; done)), (by first | rfl | (simp; done) | (simp [*]; done)), H', ⟨by have := HK1.out; omega⟩, ⟨by (with_reducible repeat (first | apply Kd.R_alloc | apply Kd.R_drewN | apply Kd.R_drew)); exact Kd.R_mono (Kd.R_far (p := ⟨gb185, 1, none⟩) (Kd.R_far (p := ⟨gb185, 0, none⟩) (Kd.R_mono HO_8.out (fun k_ hk => (⟨hk, hk.2⟩ : _ ∧ k_ ≠ gb185))) (fun _ hk => hk.2) (.int .u64 ((rd_T29 y181 x28_1).f0))) (fun _ hk => hk.2) (.int .u64 ((rd_T29 y181 x28_1).f1))) (fun _ hk => hk.1.1)⟩, ⟨by (with_reducible repeat (first | apply Kd.R_alloc | apply Kd.R_drewN | apply Kd.R_drew)); exact Kd.R_mono (Kd.R_far (p := ⟨gb185, 1, none⟩) (Kd.R_far (p := ⟨gb185, 0, none⟩) (Kd.R_mono HO_26.out (fun k_ hk => (⟨hk, hk.2⟩ : _ ∧ k_ ≠ gb185))) (fun _ hk => hk.2) (.int .u64 ((rd_T29 y181 x28_1).f0))) (fun _ hk => hk.2) (.int .u64 ((rd_T29 y181 x28_1).f1))) (fun _ hk => hk.1.1)⟩, ⟨by repeat (first | (with_reducible first | exact HB.out | apply below_alloc | apply pw_below_drewN | apply below_drew1 | refine below_set ?_ GE185.out) | exact HB.out)⟩⟩
                · rw [if_neg c13] at H
                  exact absurd H (by simp)
              · rw [if_neg c12] at H
                exact absurd H (by simp)
            · rw [if_neg c11] at H
              have c11b0 : decide (x28_1 < (y181.length : Int)) = false := decide_eq_false c11
              clear c11
              simp only [Option.some.injEq, Prod.mk.injEq] at H
              obtain ⟨rfl, rfl⟩ := H
              go_wp2
              go_ret2
              exact ⟨_, by first | rfl | (simp [errW_none, errW_some] <;> rfl) | (simp only [← hji6]; first | rfl | (simp [errW_none, errW_some] <;> rfl)) | (simp [*, errW_none, errW_some] <;> rfl), by (with_reducible repeat (first | apply Kd.R_alloc | apply Kd.R_drewN | apply Kd.R_drew)); exact Kd.R_mono HO_8.out (fun _ hk => trivial), by repeat (first | (with_reducible first | exact HB.out | apply below_alloc | apply pw_below_drewN | apply below_drew1) | exact HB.out)⟩
      · rw [if_neg c7] at H
        exact absurd H (by simp)
    · rw [if_neg c5] at H
      exact absurd H (by simp)
  · rw [if_neg c4] at H
    have c4b0 : (t178 == 0) = false := beq_eq_false_iff_ne.mpr c4
    have c4b1 : (t178 != 0) = true := bne_iff_ne.mpr c4
    simp only [Option.some.injEq, Prod.mk.injEq] at H
    obtain ⟨rfl, rfl⟩ := H
    go_enter Try.func21, Try.ntmps21
    go_wp2_with (first | ((with_reducible refine gate_callee (f := 37) rfl ?_); refine goesL_ (some 15) rfl rfl Try.func37 (by kernel_rfl) rfl #[.int .i64 a0, .slice A1 l1.length c1] rfl (by (try simp only [List.map_toArray, List.map_cons, List.map_nil]); first | done | rfl | (simp only [List.length_drop, List.length_take]; rfl)) ?_; (with_reducible refine (draw_whole.calls k a0 _ _ l1 t177 t178 _ ?side1 ?side2 A3.out).mono ?_); (case side1 => repeat (first | exact HR1.out | (with_reducible refine Kd.C_alloc ?_ _) | (with_reducible refine Kd.C_drewN ?_ _) | (with_reducible refine Kd.C_drew ?_))); (case side2 => exact HC1.out); rintro e w22 ⟨v179, rfl, ho0, hb⟩; refine ⟨_, rfl, ?_⟩; have n0_ := Aside0.mk (Kd.R_lower ho0 (below_size (by repeat (first | (with_reducible first | exact HB.out | apply below_alloc | apply pw_below_drewN | apply below_drew1) | exact HB.out)))); have n1_ := Aside0.mk (below_step (by repeat (first | (with_reducible first | exact HB.out | apply below_alloc | apply pw_below_drewN | apply below_drew1) | exact HB.out)) hb); clear HB; have HO180 := n0_; have HB := n1_; clear n0_ n1_; (try clear hb); (try clear hb2); (try clear hk); (try clear hi); (try clear ho0)))
    go_ret2
    exact ⟨_, by first | rfl | (simp [errW_none, errW_some] <;> rfl) | (simp [*, errW_none, errW_some] <;> rfl), by first | exact Kd.R_nil _ _ _ _ _ | exact Kd.N_nil _ _ _ _ _ | exact Kd.V_nil _ _ _ _ _ | exact Kd.Q_nil _ _ _ _ _ | exact Kd.S_nil _ _ _ _ _, by repeat (first | (with_reducible first | exact HB.out | apply below_alloc | apply pw_below_drewN | apply below_drew1) | exact HB.out)⟩

end Go.Proofs.Ytaeaacdjiijooaa.Pr

-- Written by wip/tools/myprint.py (a print of the translation, turned). Not trusted: Lean checks it.
namespace Go.Proofs.Ytaeaacdjiijooaa.Pr
open Go.RowKit Go.Proofs.YtaeaacdjiijooaaW.PrintWords Go.Proofs.YtaeaacdjiijooaaW.PrintLast Go.Proofs.YtaeaacdjiijooaaW.PrintMore
attribute [local go_sem] max2_int min2_int max_two min_two max_three min_three max_four min_four   -- for this text's walks alone
set_option linter.unusedVariables false
set_option linter.unusedSimpArgs false

/-! ### draw_Reach: function 22 -/
def draw_Reach.l0 : Nat → Int → Int → List (S29) → Int → Int → Option (Int × Int)
  | 0, _, _, _, _, _ => none
  | k + 1, x7, x8, x17, x18, x19 => if x19 < x18 then (if 0 ≤ x19 then (if x19 < (x17.length : Int) then (draw_Reach.l0 k x7 (IntKind.u64.wrap (x8 + (IntKind.u64.wrap (((rd_T29 x17 x19).f1) - ((rd_T29 x17 x19).f0))))) x17 x18 (wrap64 (x19 + 1))) else (none)) else (none)) else (some (x8, x7))
def draw_Reach.f (k : Nat) (a0 : Int) (l1 : List (S29)) : Option (Int × Int) := (draw_whole.f k a0 l1).bind fun bt189 => (draw_Reach.l0 k bt189.2 0 bt189.1 (bt189.1.length : Int) 0)
theorem draw_Reach.mono_l : ∀ k, (∀ y0 y1 y2 y3 y4, LeO (draw_Reach.l0 k y0 y1 y2 y3 y4) (draw_Reach.l0 (k + 1) y0 y1 y2 y3 y4))
  | 0 => fun _ _ _ _ _ r h => by simp [draw_Reach.l0] at h
  | k + 1 => by
    have ih0 := draw_Reach.mono_l k
    · intro y0 y1 y2 y3 y4
      unfold draw_Reach.l0
      repeat' first
      | (with_reducible exact ih0 _ _ _ _ _)
      | (with_reducible exact draw_whole.mono _ _ _)
      | (with_reducible exact LeO.refl _)
      | (with_reducible exact LeO.none _)
      | (with_reducible refine LeO.ite ?_ ?_)
      | (with_reducible refine LeO.bind ?_ (fun _ => ?_))
      | exact ih0 _ _ _ _ _
      | exact draw_whole.mono _ _ _
      | exact LeO.none _
      | refine LeO.ite ?_ ?_
      | refine LeO.bind ?_ (fun _ => ?_)
theorem draw_Reach.mono : ∀ a0 a1 k, LeO (draw_Reach.f k a0 a1) (draw_Reach.f (k + 1) a0 a1) := by
  intro a0 a1 k
  have ih0 := draw_Reach.mono_l k
  unfold draw_Reach.f
  repeat' first
      | (with_reducible exact ih0 _ _ _ _ _)
      | (with_reducible exact draw_whole.mono _ _ _)
      | (with_reducible exact LeO.refl _)
      | (with_reducible exact LeO.none _)
      | (with_reducible refine LeO.ite ?_ ?_)
      | (with_reducible refine LeO.bind ?_ (fun _ => ?_))
      | exact ih0 _ _ _ _ _
      | exact draw_whole.mono _ _ _
      | exact LeO.none _
      | refine LeO.ite ?_ ?_
      | refine LeO.bind ?_ (fun _ => ?_)
set_option maxHeartbeats 8000000 in
set_option maxRecDepth 100000 in
theorem draw_Reach.calls (k : Nat) (a0 : Int) (A1 : Option Addr) (c1 : Nat) (l1 : List (S29)) (r1 : Int) (r2 : Int) (w : World) (hr1 : Kd.C k29 w A1 l1.length l1) (hc1 : l1.length ≤ c1) (h : draw_Reach.f k a0 l1 = some (r1, r2)) :
    Calls Try.prog 22 #[.int .i64 a0, .slice A1 l1.length c1] w fun e w' => e = .returned (.tuple #[.int .u64 r1, .int .i64 r2]) ∧ Below w.heap.size w w' := by
  have hu29 := Try.underlying29
  have HR1 := Aside0.mk hr1
  have HC1 := Aside0.mk hc1
  clear hr1 hc1
  have HB := Aside0.mk (Below.refl w.heap.size w)
  have H : ((draw_whole.f k a0 l1).bind fun bt189 => (draw_Reach.l0 k bt189.2 0 bt189.1 (bt189.1.length : Int) 0)) = some (r1, r2) := h
  clear h
  replace H := Option.bind_eq_some_iff.mp H
  obtain ⟨⟨t189, t190⟩, A30, H⟩ := H
  replace H : (draw_Reach.l0 k t190 0 t189 (t189.length : Int) 0) = some (r1, r2) := H
  have A3 := Aside0.mk A30
  clear A30
  have H' := Aside0.mk H
  clear H
  go_enter Try.func22, Try.ntmps22
  go_wp2_with (first | ((with_reducible refine gate_callee (f := 37) rfl ?_); refine goesL_ (some 14) rfl rfl Try.func37 (by kernel_rfl) rfl #[.int .i64 a0, .slice A1 l1.length c1] rfl (by (try simp only [List.map_toArray, List.map_cons, List.map_nil]); first | done | rfl | (simp only [List.length_drop, List.length_take]; rfl)) ?_; (with_reducible refine (draw_whole.calls k a0 _ _ l1 t189 t190 _ ?side1 ?side2 A3.out).mono ?_); (case side1 => repeat (first | exact HR1.out | (with_reducible refine Kd.C_alloc ?_ _) | (with_reducible refine Kd.C_drewN ?_ _) | (with_reducible refine Kd.C_drew ?_))); (case side2 => exact HC1.out); rintro e w4 ⟨v191, rfl, ho0, hb⟩; refine ⟨_, rfl, ?_⟩; have n0_ := Aside0.mk (Kd.R_lower ho0 (below_size (by repeat (first | (with_reducible first | exact HB.out | apply below_alloc | apply pw_below_drewN | apply below_drew1) | exact HB.out)))); have n1_ := Aside0.mk (below_step (by repeat (first | (with_reducible first | exact HB.out | apply below_alloc | apply pw_below_drewN | apply below_drew1) | exact HB.out)) hb); clear HB; have HO192 := n0_; have HB := n1_; clear n0_ n1_; (try clear hb); (try clear hb2); (try clear hk); (try clear hi); (try clear ho0); obtain ⟨Ao5, co5, eo5⟩ := Kd.R_slice HO192.out; subst eo5))
  go_loopg [8, 19] k (fun kq v8 v19 w' => ∃ (x8_1 : Int) (x19_1 : Int), v8 = .int .u64 x8_1 ∧ v19 = .int .i64 x19_1 ∧ Aside0 (draw_Reach.l0 kq t190 x8_1 t189 (t189.length : Int) x19_1 = some (r1, r2)) ∧ Aside0 (kq ≤ k) ∧ Aside0 (Kd.R k29 29 w' w.heap.size (fun _ => True) (.slice Ao5 t189.length co5) t189) ∧ Aside0 (Below w.heap.size w w'))
  case atStart => exact ⟨(0), (0), (by first | rfl | (simp; done) | (simp [*]; done)), (by first | rfl | (simp; done) | (simp [*]; done)), H', ⟨Nat.le_refl _⟩, ⟨by (with_reducible repeat (first | apply Kd.R_alloc | apply Kd.R_drewN | apply Kd.R_drew)); exact HO192.out⟩, ⟨by repeat (first | (with_reducible first | exact HB.out | apply below_alloc | apply pw_below_drewN | apply below_drew1) | exact HB.out)⟩⟩
  case round =>
    clear H'
    try clear c1
    try clear c2
    try clear p2
    try clear c3
    obtain ⟨x8_1, x19_1, rfl, rfl, HA, HK1, HO_17, HB⟩ := hrel
    cases gk with
    | zero => exact absurd HA.out (by simp [draw_Reach.l0])
    | succ k1 =>
      have H := HA.out
      clear HA
      simp only [draw_Reach.l0] at H
      by_cases c6 : x19_1 < (t189.length : Int)
      · rw [if_pos c6] at H
        have c6b0 : decide (x19_1 < (t189.length : Int)) = true := decide_eq_true c6
        clear c6
        by_cases c7 : 0 ≤ x19_1
        · rw [if_pos c7] at H
          have c7b0 : decide (0 ≤ x19_1) = true := decide_eq_true c7
          clear c7
          by_cases c8 : x19_1 < (t189.length : Int)
          · rw [if_pos c8] at H
            have c8b0 : decide (x19_1 < (t189.length : Int)) = true := decide_eq_true c8
            clear c8
            have H' := Aside0.mk H
            clear H
            have p193 : 0 ≤ (x19_1 : Int) := of_decide_eq_true (by first | (with_reducible assumption) | assumption)
            have q193 : x19_1 < (t189.length : Int) := of_decide_eq_true (by first | (with_reducible assumption) | assumption)
            obtain ⟨ad193, e193, hx193_0, hx193_1⟩ := at_T29 (Kd.R_reads' HO_17.out).2.2 x19_1 p193 q193
            cases e193
            replace p193 := eq_true p193
            replace q193 := eq_true q193
            go_wp2_with (first | ((with_reducible refine gate_dst (N := 10) rfl ?_); refine box_event ?hg (N := 10) ?hd (cs := #[.int .u64 0, .int .u64 0]) (t := 29) ?hr ?_; (case hd => rfl); (case hg => rfl); (case hr => first | (go_simp; done) | (go_simp; rfl)); intro gb194 hg w9 hbox hb; have n0_ := Aside0.mk (Kd.R_below (Kd.R_elderB (by (with_reducible repeat (first | apply Kd.R_alloc | apply Kd.R_drewN | apply Kd.R_drew)); exact HO_17.out) gb194 (Nat.le_of_eq hg.symm)) hb); have n1_ := Aside0.mk (below_step (by repeat (first | (with_reducible first | exact HB.out | apply below_alloc | apply pw_below_drewN | apply below_drew1) | exact HB.out)) hb); have n2_ := Aside0.mk (hbox); have n3_ := Aside0.mk ((by rw [hg]; exact (below_size (by repeat (first | (with_reducible first | exact HB.out | apply below_alloc | apply pw_below_drewN | apply below_drew1) | exact HB.out))) : w.heap.size ≤ gb194)); have n4_ := Aside0.mk ((by rw [hg]; exact (below_size (by repeat (first | (with_reducible first | exact HB.out | apply below_alloc | apply pw_below_drewN | apply below_drew1) | exact HB.out))) : w.heap.size ≤ gb194)); clear HO_17; clear HB; have HO_17 := n0_; have HB := n1_; have BK194 := n2_; have GW194 := n3_; have GE194 := n4_; clear n0_ n1_ n2_ n3_ n4_; clear hb hbox hg; have hcz10_0 : w9.cell? ⟨gb194, 0, none⟩ = some (.int .u64 0) := (blk_cell BK194.out 0).trans rfl; have hcz10_1 : w9.cell? ⟨gb194, 1, none⟩ = some (.int .u64 0) := (blk_cell BK194.out 1).trans rfl; have hfz10_0 := blk_frozen BK194.out 0; have hfz10_1 := blk_frozen BK194.out 1))
            go_roundg k1
            case measure => have := HK1.out; omega
            case rel => exact ⟨(IntKind.u64.wrap (x8_1 + (IntKind.u64.wrap (((rd_T29 t189 x19_1).f1) - ((rd_T29 t189 x19_1).f0))))), (wrap64 (x19_1 + 1)), (by first | rfl | (simp; done) | (simp [*]; done)), (by first | rfl | (simp; done) | (simp [*]; done)), H', ⟨by have := HK1.out; omega⟩, ⟨by (with_reducible repeat (first | apply Kd.R_alloc | apply Kd.R_drewN | apply Kd.R_drew)); exact Kd.R_mono (Kd.R_far (p := ⟨gb194, 1, none⟩) (Kd.R_far (p := ⟨gb194, 0, none⟩) (Kd.R_mono HO_17.out (fun k_ hk => (⟨hk, hk.2⟩ : _ ∧ k_ ≠ gb194))) (fun _ hk => hk.2) (.int .u64 ((rd_T29 t189 x19_1).f0))) (fun _ hk => hk.2) (.int .u64 ((rd_T29 t189 x19_1).f1))) (fun _ hk => trivial)⟩, ⟨by repeat (first | (with_reducible first | exact HB.out | apply below_alloc | apply pw_below_drewN | apply below_drew1 | refine below_set ?_ GE194.out) | exact HB.out)⟩⟩
          · rw [if_neg c8] at H
            exact absurd H (by simp)
        · rw [if_neg c7] at H
          exact absurd H (by simp)
      · rw [if_neg c6] at H
        have c6b0 : decide (x19_1 < (t189.length : Int)) = false := decide_eq_false c6
        clear c6
        simp only [Option.some.injEq, Prod.mk.injEq] at H
        obtain ⟨rfl, rfl⟩ := H
        go_wp2
        go_ret2
        exact ⟨by first | rfl | (simp [errW_none, errW_some] <;> rfl) | (simp [*, errW_none, errW_some] <;> rfl), by repeat (first | (with_reducible first | exact HB.out | apply below_alloc | apply pw_below_drewN | apply below_drew1) | exact HB.out)⟩

end Go.Proofs.Ytaeaacdjiijooaa.Pr

-- Written by wip/tools/myprint.py (a print of the translation, turned). Not trusted: Lean checks it.
namespace Go.Proofs.Ytaeaacdjiijooaa.Pr
open Go.RowKit Go.Proofs.YtaeaacdjiijooaaW.PrintWords Go.Proofs.YtaeaacdjiijooaaW.PrintLast Go.Proofs.YtaeaacdjiijooaaW.PrintMore
attribute [local go_sem] max2_int min2_int max_two min_two max_three min_three max_four min_four   -- for this text's walks alone
set_option linter.unusedVariables false
set_option linter.unusedSimpArgs false

/-! ### draw_Hits: function 23 -/
def draw_Hits.l0 : Nat → Int → Int → List (S29) → Int → Int → Option (Int)
  | 0, _, _, _, _, _ => none
  | k + 1, x1, x5, x8, x9, x10 => if x10 < x9 then (if 0 ≤ x10 then (if x10 < (x8.length : Int) then (if x1 ≥ ((rd_T29 x8 x10).f0) then (if x1 < ((rd_T29 x8 x10).f1) then (draw_Hits.l0 k x1 (wrap64 (x5 + 1)) x8 x9 (wrap64 (x10 + 1))) else (draw_Hits.l0 k x1 x5 x8 x9 (wrap64 (x10 + 1)))) else (draw_Hits.l0 k x1 x5 x8 x9 (wrap64 (x10 + 1)))) else (none)) else (none)) else (some x5)
def draw_Hits.f (k : Nat) (l0 : List (S29)) (a1 : Int) : Option (Int) := draw_Hits.l0 k a1 0 l0 (l0.length : Int) 0
theorem draw_Hits.mono_l : ∀ k, (∀ y0 y1 y2 y3 y4, LeO (draw_Hits.l0 k y0 y1 y2 y3 y4) (draw_Hits.l0 (k + 1) y0 y1 y2 y3 y4))
  | 0 => fun _ _ _ _ _ r h => by simp [draw_Hits.l0] at h
  | k + 1 => by
    have ih0 := draw_Hits.mono_l k
    · intro y0 y1 y2 y3 y4
      unfold draw_Hits.l0
      repeat' first
      | (with_reducible exact ih0 _ _ _ _ _)
      | (with_reducible exact LeO.refl _)
      | (with_reducible exact LeO.none _)
      | (with_reducible refine LeO.ite ?_ ?_)
      | (with_reducible refine LeO.bind ?_ (fun _ => ?_))
      | exact ih0 _ _ _ _ _
      | exact LeO.none _
      | refine LeO.ite ?_ ?_
      | refine LeO.bind ?_ (fun _ => ?_)
theorem draw_Hits.mono : ∀ a0 a1 k, LeO (draw_Hits.f k a0 a1) (draw_Hits.f (k + 1) a0 a1) := by
  intro a0 a1 k
  have ih0 := draw_Hits.mono_l k
  unfold draw_Hits.f
  repeat' first
      | (with_reducible exact ih0 _ _ _ _ _)
      | (with_reducible exact LeO.refl _)
      | (with_reducible exact LeO.none _)
      | (with_reducible refine LeO.ite ?_ ?_)
      | (with_reducible refine LeO.bind ?_ (fun _ => ?_))
      | exact ih0 _ _ _ _ _
      | exact LeO.none _
      | refine LeO.ite ?_ ?_
      | refine LeO.bind ?_ (fun _ => ?_)
set_option maxHeartbeats 8000000 in
set_option maxRecDepth 100000 in
theorem draw_Hits.calls (k : Nat) (A0 : Option Addr) (c0 : Nat) (l0 : List (S29)) (a1 : Int) (r : Int) (w : World) (hr0 : Kd.C k29 w A0 l0.length l0) (hc0 : l0.length ≤ c0) (h : draw_Hits.f k l0 a1 = some r) :
    Calls Try.prog 23 #[.slice A0 l0.length c0, .int .u64 a1] w fun e w' => e = .returned (.int .i64 r) ∧ Below w.heap.size w w' := by
  have hu29 := Try.underlying29
  have HR0 := Aside0.mk hr0
  have HC0 := Aside0.mk hc0
  clear hr0 hc0
  have HB := Aside0.mk (Below.refl w.heap.size w)
  have H : (draw_Hits.l0 k a1 0 l0 (l0.length : Int) 0) = some r := h
  clear h
  have H' := Aside0.mk H
  clear H
  go_enter Try.func23, Try.ntmps23
  go_wp2
  go_loopg [5, 10] k (fun kq v5 v10 w' => ∃ (x5_1 : Int) (x10_1 : Int), v5 = .int .i64 x5_1 ∧ v10 = .int .i64 x10_1 ∧ Aside0 (draw_Hits.l0 kq a1 x5_1 l0 (l0.length : Int) x10_1 = some r) ∧ Aside0 (kq ≤ k) ∧ Aside0 (Below w.heap.size w w'))
  case atStart => exact ⟨(0), (0), (by first | rfl | (simp; done) | (simp [*]; done)), (by first | rfl | (simp; done) | (simp [*]; done)), H', ⟨Nat.le_refl _⟩, ⟨by repeat (first | (with_reducible first | exact HB.out | apply below_alloc | apply pw_below_drewN | apply below_drew1) | exact HB.out)⟩⟩
  case round =>
    clear H'
    try clear c2
    try clear p2
    obtain ⟨x5_1, x10_1, rfl, rfl, HA, HK1, HB⟩ := hrel
    cases gk with
    | zero => exact absurd HA.out (by simp [draw_Hits.l0])
    | succ k1 =>
      have H := HA.out
      clear HA
      simp only [draw_Hits.l0] at H
      by_cases c3 : x10_1 < (l0.length : Int)
      · rw [if_pos c3] at H
        have c3b0 : decide (x10_1 < (l0.length : Int)) = true := decide_eq_true c3
        clear c3
        by_cases c4 : 0 ≤ x10_1
        · rw [if_pos c4] at H
          have c4b0 : decide (0 ≤ x10_1) = true := decide_eq_true c4
          clear c4
          by_cases c5 : x10_1 < (l0.length : Int)
          · rw [if_pos c5] at H
            have c5b0 : decide (x10_1 < (l0.length : Int)) = true := decide_eq_true c5
            clear c5
            by_cases c6 : a1 ≥ ((rd_T29 l0 x10_1).f0)
            · rw [if_pos c6] at H
              have c6b0 : decide (((rd_T29 l0 x10_1).f0) ≤ a1) = true := decide_eq_true c6
              clear c6
              by_cases c7 : a1 < ((rd_T29 l0 x10_1).f1)
              · rw [if_pos c7] at H
                have c7b0 : decide (a1 < ((rd_T29 l0 x10_1).f1)) = true := decide_eq_true c7
                clear c7
                have H' := Aside0.mk H
                clear H
                have p195 : 0 ≤ (x10_1 : Int) := of_decide_eq_true (by first | (with_reducible assumption) | assumption)
                have q195 : x10_1 < (l0.length : Int) := of_decide_eq_true (by first | (with_reducible assumption) | assumption)
                obtain ⟨ad195, e195, hx195_0, hx195_1⟩ := at_T29 HR0.out x10_1 p195 q195
                cases e195
                replace hx195_0 := (HB.out.cell (World.block_lt_of_cell? w _ hx195_0)).trans hx195_0
                replace hx195_1 := (HB.out.cell (World.block_lt_of_cell? w _ hx195_1)).trans hx195_1
                replace p195 := eq_true p195
                replace q195 := eq_true q195
                go_wp2_with (first | ((with_reducible refine gate_dst (N := 7) rfl ?_); refine box_event ?hg (N := 7) ?hd (cs := #[.int .u64 0, .int .u64 0]) (t := 29) ?hr ?_; (case hd => rfl); (case hg => rfl); (case hr => first | (go_simp; done) | (go_simp; rfl)); intro gb196 hg w8 hbox hb; have n0_ := Aside0.mk (below_step (by repeat (first | (with_reducible first | exact HB.out | apply below_alloc | apply pw_below_drewN | apply below_drew1) | exact HB.out)) hb); have n1_ := Aside0.mk (hbox); have n2_ := Aside0.mk ((by rw [hg]; exact (below_size (by repeat (first | (with_reducible first | exact HB.out | apply below_alloc | apply pw_below_drewN | apply below_drew1) | exact HB.out))) : w.heap.size ≤ gb196)); have n3_ := Aside0.mk ((by rw [hg]; exact (below_size (by repeat (first | (with_reducible first | exact HB.out | apply below_alloc | apply pw_below_drewN | apply below_drew1) | exact HB.out))) : w.heap.size ≤ gb196)); clear HB; have HB := n0_; have BK196 := n1_; have GW196 := n2_; have GE196 := n3_; clear n0_ n1_ n2_ n3_; clear hb hbox hg; have hcz9_0 : w8.cell? ⟨gb196, 0, none⟩ = some (.int .u64 0) := (blk_cell BK196.out 0).trans rfl; have hcz9_1 : w8.cell? ⟨gb196, 1, none⟩ = some (.int .u64 0) := (blk_cell BK196.out 1).trans rfl; have hfz9_0 := blk_frozen BK196.out 0; have hfz9_1 := blk_frozen BK196.out 1))
                go_roundg k1
                case measure => have := HK1.out; omega
                case rel => exact ⟨(wrap64 (x5_1 + 1)), (wrap64 (x10_1 + 1)), (by first | rfl | (simp; done) | (simp [*]; done)), (by first | rfl | (simp; done) | (simp [*]; done)), H', ⟨by have := HK1.out; omega⟩, ⟨by repeat (first | (with_reducible first | exact HB.out | apply below_alloc | apply pw_below_drewN | apply below_drew1 | refine below_set ?_ GE196.out) | exact HB.out)⟩⟩
              · rw [if_neg c7] at H
                have c7b0 : decide (a1 < ((rd_T29 l0 x10_1).f1)) = false := decide_eq_false c7
                clear c7
                have H' := Aside0.mk H
                clear H
                have p195 : 0 ≤ (x10_1 : Int) := of_decide_eq_true (by first | (with_reducible assumption) | assumption)
                have q195 : x10_1 < (l0.length : Int) := of_decide_eq_true (by first | (with_reducible assumption) | assumption)
                obtain ⟨ad195, e195, hx195_0, hx195_1⟩ := at_T29 HR0.out x10_1 p195 q195
                cases e195
                replace hx195_0 := (HB.out.cell (World.block_lt_of_cell? w _ hx195_0)).trans hx195_0
                replace hx195_1 := (HB.out.cell (World.block_lt_of_cell? w _ hx195_1)).trans hx195_1
                replace p195 := eq_true p195
                replace q195 := eq_true q195
                go_wp2_with (first | ((with_reducible refine gate_dst (N := 7) rfl ?_); refine box_event ?hg (N := 7) ?hd (cs := #[.int .u64 0, .int .u64 0]) (t := 29) ?hr ?_; (case hd => rfl); (case hg => rfl); (case hr => first | (go_simp; done) | (go_simp; rfl)); intro gb196 hg w10 hbox hb; have n0_ := Aside0.mk (below_step (by repeat (first | (with_reducible first | exact HB.out | apply below_alloc | apply pw_below_drewN | apply below_drew1) | exact HB.out)) hb); have n1_ := Aside0.mk (hbox); have n2_ := Aside0.mk ((by rw [hg]; exact (below_size (by repeat (first | (with_reducible first | exact HB.out | apply below_alloc | apply pw_below_drewN | apply below_drew1) | exact HB.out))) : w.heap.size ≤ gb196)); have n3_ := Aside0.mk ((by rw [hg]; exact (below_size (by repeat (first | (with_reducible first | exact HB.out | apply below_alloc | apply pw_below_drewN | apply below_drew1) | exact HB.out))) : w.heap.size ≤ gb196)); clear HB; have HB := n0_; have BK196 := n1_; have GW196 := n2_; have GE196 := n3_; clear n0_ n1_ n2_ n3_; clear hb hbox hg; have hcz11_0 : w10.cell? ⟨gb196, 0, none⟩ = some (.int .u64 0) := (blk_cell BK196.out 0).trans rfl; have hcz11_1 : w10.cell? ⟨gb196, 1, none⟩ = some (.int .u64 0) := (blk_cell BK196.out 1).trans rfl; have hfz11_0 := blk_frozen BK196.out 0; have hfz11_1 := blk_frozen BK196.out 1))
                go_roundg k1
                case measure => have := HK1.out; omega
                case rel => exact ⟨(x5_1), (wrap64 (x10_1 + 1)), (by first | rfl | (simp; done) | (simp [*]; done)), (by first | rfl | (simp; done) | (simp [*]; done)), H', ⟨by have := HK1.out; omega⟩, ⟨by repeat (first | (with_reducible first | exact HB.out | apply below_alloc | apply pw_below_drewN | apply below_drew1 | refine below_set ?_ GE196.out) | exact HB.out)⟩⟩
            · rw [if_neg c6] at H
              have c6b0 : decide (((rd_T29 l0 x10_1).f0) ≤ a1) = false := decide_eq_false c6
              clear c6
              have H' := Aside0.mk H
              clear H
              have p195 : 0 ≤ (x10_1 : Int) := of_decide_eq_true (by first | (with_reducible assumption) | assumption)
              have q195 : x10_1 < (l0.length : Int) := of_decide_eq_true (by first | (with_reducible assumption) | assumption)
              obtain ⟨ad195, e195, hx195_0, hx195_1⟩ := at_T29 HR0.out x10_1 p195 q195
              cases e195
              replace hx195_0 := (HB.out.cell (World.block_lt_of_cell? w _ hx195_0)).trans hx195_0
              replace hx195_1 := (HB.out.cell (World.block_lt_of_cell? w _ hx195_1)).trans hx195_1
              replace p195 := eq_true p195
              replace q195 := eq_true q195
              go_wp2_with (first | ((with_reducible refine gate_dst (N := 7) rfl ?_); refine box_event ?hg (N := 7) ?hd (cs := #[.int .u64 0, .int .u64 0]) (t := 29) ?hr ?_; (case hd => rfl); (case hg => rfl); (case hr => first | (go_simp; done) | (go_simp; rfl)); intro gb196 hg w12 hbox hb; have n0_ := Aside0.mk (below_step (by repeat (first | (with_reducible first | exact HB.out | apply below_alloc | apply pw_below_drewN | apply below_drew1) | exact HB.out)) hb); have n1_ := Aside0.mk (hbox); have n2_ := Aside0.mk ((by rw [hg]; exact (below_size (by repeat (first | (with_reducible first | exact HB.out | apply below_alloc | apply pw_below_drewN | apply below_drew1) | exact HB.out))) : w.heap.size ≤ gb196)); have n3_ := Aside0.mk ((by rw [hg]; exact (below_size (by repeat (first | (with_reducible first | exact HB.out | apply below_alloc | apply pw_below_drewN | apply below_drew1) | exact HB.out))) : w.heap.size ≤ gb196)); clear HB; have HB := n0_; have BK196 := n1_; have GW196 := n2_; have GE196 := n3_; clear n0_ n1_ n2_ n3_; clear hb hbox hg; have hcz13_0 : w12.cell? ⟨gb196, 0, none⟩ = some (.int .u64 0) := (blk_cell BK196.out 0).trans rfl; have hcz13_1 : w12.cell? ⟨gb196, 1, none⟩ = some (.int .u64 0) := (blk_cell BK196.out 1).trans rfl; have hfz13_0 := blk_frozen BK196.out 0; have hfz13_1 := blk_frozen BK196.out 1))
              go_roundg k1
              case measure => have := HK1.out; omega
              case rel => exact ⟨(x5_1), (wrap64 (x10_1 + 1)), (by first | rfl | (simp; done) | (simp [*]; done)), (by first | rfl | (simp; done) | (simp [*]; done)), H', ⟨by have := HK1.out; omega⟩, ⟨by repeat (first | (with_reducible first | exact HB.out | apply below_alloc | apply pw_below_drewN | apply below_drew1 | refine below_set ?_ GE196.out) | exact HB.out)⟩⟩
          · rw [if_neg c5] at H
            exact absurd H (by simp)
        · rw [if_neg c4] at H
          exact absurd H (by simp)
      · rw [if_neg c3] at H
        have c3b0 : decide (x10_1 < (l0.length : Int)) = false := decide_eq_false c3
        clear c3
        obtain rfl := Option.some.inj H
        go_wp2
        go_ret
        exact ⟨by first | rfl | (simp [errW_none, errW_some] <;> rfl) | (simp [*, errW_none, errW_some] <;> rfl), by repeat (first | (with_reducible first | exact HB.out | apply below_alloc | apply pw_below_drewN | apply below_drew1) | exact HB.out)⟩

end Go.Proofs.Ytaeaacdjiijooaa.Pr

/- Spans: what they hold (Mem), when a row of them is the only one that holds it (Can), how they are put together, what is between them. Plain Lean. -/
namespace Go.Proofs.Ytaeaacdjiijooaa.Pr
open Go.RowKit Go.Proofs.YtaeaacdjiijooaaW.PrintWords Go.Proofs.YtaeaacdjiijooaaW.PrintLast Go.Proofs.YtaeaacdjiijooaaW.PrintMore
set_option linter.unusedVariables false

def Mem (p : Int) (L : List S29) : Prop := ∃ x, x ∈ L ∧ x.f0 ≤ p ∧ p < x.f1
def Can (L : List S29) : Prop := (∀ x, x ∈ L → x.f0 < x.f1) ∧ L.Pairwise (fun x y => x.f1 < y.f0)
theorem mem_nil (p : Int) : ¬ Mem p [] := by rintro ⟨x, hx, _⟩; cases hx
theorem mem_cons (p : Int) (x : S29) (L : List S29) : Mem p (x :: L) ↔ (x.f0 ≤ p ∧ p < x.f1) ∨ Mem p L := by
  constructor
  · rintro ⟨z, hz, h⟩
    rcases List.mem_cons.1 hz with rfl | hz
    · exact .inl h
    · exact .inr ⟨z, hz, h⟩
  · rintro (h | ⟨z, hz, h⟩)
    · exact ⟨x, List.mem_cons_self .., h⟩
    · exact ⟨z, List.mem_cons_of_mem _ hz, h⟩
theorem mem_append (p : Int) (A B : List S29) : Mem p (A ++ B) ↔ Mem p A ∨ Mem p B := by
  constructor
  · rintro ⟨z, hz, h⟩
    rcases List.mem_append.1 hz with hz | hz
    · exact .inl ⟨z, hz, h⟩
    · exact .inr ⟨z, hz, h⟩
  · rintro (⟨z, hz, h⟩ | ⟨z, hz, h⟩)
    · exact ⟨z, List.mem_append.2 (.inl hz), h⟩
    · exact ⟨z, List.mem_append.2 (.inr hz), h⟩
theorem mem_one (p : Int) (x : S29) : Mem p [x] ↔ x.f0 ≤ p ∧ p < x.f1 := by
  rw [mem_cons]; exact ⟨fun h => h.elim id fun h => absurd h (mem_nil p), .inl⟩
theorem can_nil : Can [] := ⟨(fun x hx => by cases hx), List.Pairwise.nil⟩
theorem can_cons {x : S29} {L : List S29} (h : Can (x :: L)) : x.f0 < x.f1 ∧ (∀ y, y ∈ L → x.f1 < y.f0) ∧ Can L :=
  ⟨h.1 x (List.mem_cons_self ..), (List.pairwise_cons.1 h.2).1, fun y hy => h.1 y (List.mem_cons_of_mem _ hy), (List.pairwise_cons.1 h.2).2⟩
theorem can_mk {x : S29} {L : List S29} (h0 : x.f0 < x.f1) (h1 : ∀ y, y ∈ L → x.f1 < y.f0) (h : Can L) : Can (x :: L) :=
  ⟨fun y hy => by
    rcases List.mem_cons.1 hy with rfl | hy
    · exact h0
    · exact h.1 y hy, List.pairwise_cons.2 ⟨h1, h.2⟩⟩
theorem can_snoc {L : List S29} {z : S29} : Can (L ++ [z]) ↔ Can L ∧ z.f0 < z.f1 ∧ ∀ x, x ∈ L → x.f1 < z.f0 := by
  constructor
  · intro h
    refine ⟨⟨fun x hx => h.1 x (List.mem_append.2 (.inl hx)), (List.pairwise_append.1 h.2).1⟩, h.1 z (by simp), fun x hx => (List.pairwise_append.1 h.2).2.2 x hx z (by simp)⟩
  · rintro ⟨h1, h2, h3⟩
    refine ⟨fun x hx => ?_, List.pairwise_append.2 ⟨h1.2, by simp, fun x hx y hy => ?_⟩⟩
    · rcases List.mem_append.1 hx with hx | hx
      · exact h1.1 x hx
      · obtain rfl := List.mem_singleton.1 hx; exact h2
    · obtain rfl := List.mem_singleton.1 hy; exact h3 x hx

theorem can_unique : ∀ (L M : List S29), Can L → Can M → (∀ p, Mem p L ↔ Mem p M) → L = M
  | [], [], _, _, _ => rfl
  | [], y :: ys, _, hM, h => absurd ((h y.f0).2 ⟨y, List.mem_cons_self .., Int.le_refl _, (can_cons hM).1⟩) (mem_nil _)
  | x :: xs, [], hL, _, h => absurd ((h x.f0).1 ⟨x, List.mem_cons_self .., Int.le_refl _, (can_cons hL).1⟩) (mem_nil _)
  | x :: xs, y :: ys, hL, hM, h => by
    obtain ⟨lx, px, cx⟩ := can_cons hL
    obtain ⟨ly, py, cy⟩ := can_cons hM
    have gx : ∀ p, Mem p (x :: xs) → x.f0 ≤ p := by
      rintro p ⟨z, hz, h1, h2⟩
      rcases List.mem_cons.1 hz with rfl | hz
      · exact h1
      · have := px z hz; omega
    have gy : ∀ p, Mem p (y :: ys) → y.f0 ≤ p := by
      rintro p ⟨z, hz, h1, h2⟩
      rcases List.mem_cons.1 hz with rfl | hz
      · exact h1
      · have := py z hz; omega
    have e0 : x.f0 = y.f0 := by
      have a := gy x.f0 ((h _).1 ⟨x, List.mem_cons_self .., Int.le_refl _, lx⟩)
      have b := gx y.f0 ((h _).2 ⟨y, List.mem_cons_self .., Int.le_refl _, ly⟩)
      omega
    have nx : ¬ Mem x.f1 (x :: xs) := by
      rintro ⟨z, hz, h1, h2⟩
      rcases List.mem_cons.1 hz with rfl | hz
      · omega
      · have := px z hz; omega
    have ny : ¬ Mem y.f1 (y :: ys) := by
      rintro ⟨z, hz, h1, h2⟩
      rcases List.mem_cons.1 hz with rfl | hz
      · omega
      · have := py z hz; omega
    have e1 : x.f1 = y.f1 := by
      rcases Int.lt_trichotomy x.f1 y.f1 with c | c | c
      · exact absurd ((h x.f1).2 ⟨y, List.mem_cons_self .., by omega, c⟩) nx
      · exact c
      · exact absurd ((h y.f1).1 ⟨x, List.mem_cons_self .., by omega, c⟩) ny
    have e : x = y := by
      cases x; cases y; simp only at e0 e1; rw [e0, e1]
    subst e
    have tl : ∀ p, Mem p xs ↔ Mem p ys := fun p => by
      constructor
      · rintro ⟨z, hz, h1, h2⟩
        rcases (mem_cons p x ys).1 ((h p).1 ⟨z, List.mem_cons_of_mem _ hz, h1, h2⟩) with hc | hc
        · have := px z hz; omega
        · exact hc
      · rintro ⟨z, hz, h1, h2⟩
        rcases (mem_cons p x xs).1 ((h p).2 ⟨z, List.mem_cons_of_mem _ hz, h1, h2⟩) with hc | hc
        · have := py z hz; omega
        · exact hc
    rw [can_unique xs ys cx cy tl]

/-- How many positions. -/
def Len : List S29 → Int
  | [] => 0
  | x :: xs => (x.f1 - x.f0) + Len xs
theorem len_append (A B : List S29) : Len (A ++ B) = Len A + Len B := by
  induction A with
  | nil => simp [Len]
  | cons x xs ih => rw [List.cons_append, Len, ih, Len]; omega
theorem len_nonneg (A : List S29) (h : ∀ x, x ∈ A → x.f0 < x.f1) : 0 ≤ Len A := by
  induction A with
  | nil => simp [Len]
  | cons x xs ih =>
    have := ih fun y hy => h y (List.mem_cons_of_mem _ hy)
    have := h x (List.mem_cons_self ..)
    rw [Len]; omega

/-! ### putting them together -/
def mrest : List S29 → S29 → List S29 → List S29
  | init, z, [] => init ++ [z]
  | init, z, s :: r => if s.f0 ≤ z.f1 then mrest init ⟨z.f0, mx z.f1 s.f1⟩ r else mrest (init ++ [z]) s r
def mall : List S29 → List S29
  | [] => []
  | s :: r => mrest [] s r
theorem mx_is (a b : Int) : mx a b = max a b := by unfold mx; omega
theorem mrest_length : ∀ (r init : List S29) (z : S29), (mrest init z r).length ≤ init.length + 1 + r.length
  | [], init, z => by simp [mrest]
  | s :: r, init, z => by
    rw [mrest]
    split
    · have := mrest_length r init ⟨z.f0, mx z.f1 s.f1⟩; simp only [List.length_cons]; omega
    · have := mrest_length r (init ++ [z]) s; simp only [List.length_append, List.length_cons, List.length_nil] at this ⊢; omega
theorem mrest_ok : ∀ (r init : List S29) (z : S29), Can (init ++ [z]) → (∀ s, s ∈ r → z.f0 ≤ s.f0) → r.Pairwise (fun x y => x.f0 ≤ y.f0) → (∀ s, s ∈ r → s.f0 < s.f1) →
    Can (mrest init z r) ∧ ∀ p, Mem p (mrest init z r) ↔ Mem p (init ++ [z]) ∨ Mem p r
  | [], init, z, hc, _, _, _ => ⟨hc, fun p => ⟨.inl, fun h => h.elim id fun h => absurd h (mem_nil p)⟩⟩
  | s :: r, init, z, hc, hz, hs, hp => by
    obtain ⟨c1, c2, c3⟩ := can_snoc.1 hc
    have h0 := hz s (List.mem_cons_self ..)
    have h1 := hp s (List.mem_cons_self ..)
    obtain ⟨hs1, hs2⟩ := List.pairwise_cons.1 hs
    have hp2 : ∀ y, y ∈ r → y.f0 < y.f1 := fun y hy => hp y (List.mem_cons_of_mem _ hy)
    rw [mrest]
    by_cases c : s.f0 ≤ z.f1
    · rw [if_pos c]
      have hm := mx_is z.f1 s.f1
      obtain ⟨g1, g2⟩ := mrest_ok r init ⟨z.f0, mx z.f1 s.f1⟩ (can_snoc.2 ⟨c1, by show z.f0 < mx z.f1 s.f1; omega, c3⟩) (fun y hy => Int.le_trans h0 (hs1 y hy)) hs2 hp2
      refine ⟨g1, fun p => ?_⟩
      rw [g2, mem_append, mem_append, mem_one, mem_one, mem_cons]
      have e : (z.f0 ≤ p ∧ p < mx z.f1 s.f1) ↔ (z.f0 ≤ p ∧ p < z.f1) ∨ (s.f0 ≤ p ∧ p < s.f1) := by omega
      show (_ ∨ (z.f0 ≤ p ∧ p < mx z.f1 s.f1)) ∨ _ ↔ _
      rw [e]
      constructor
      · rintro ((a | a | a) | a)
        · exact .inl (.inl a)
        · exact .inl (.inr a)
        · exact .inr (.inl a)
        · exact .inr (.inr a)
      · rintro ((a | a) | a | a)
        · exact .inl (.inl a)
        · exact .inl (.inr (.inl a))
        · exact .inl (.inr (.inr a))
        · exact .inr a
    · rw [if_neg c]
      obtain ⟨g1, g2⟩ := mrest_ok r (init ++ [z]) s (can_snoc.2 ⟨hc, h1, fun x hx => by
        rcases List.mem_append.1 hx with hx | hx
        · have := c3 x hx; omega
        · obtain rfl := List.mem_singleton.1 hx; omega⟩) hs1 hs2 hp2
      refine ⟨g1, fun p => ?_⟩
      rw [g2, mem_append p (init ++ [z]) [s], mem_one, mem_cons, or_assoc]
theorem mall_ok (l : List S29) (hs : l.Pairwise (fun x y => x.f0 ≤ y.f0)) (hp : ∀ s, s ∈ l → s.f0 < s.f1) : Can (mall l) ∧ (∀ p, Mem p (mall l) ↔ Mem p l) ∧ (mall l).length ≤ l.length := by
  cases l with
  | nil => exact ⟨can_nil, fun p => Iff.rfl, Nat.le_refl _⟩
  | cons s r =>
    obtain ⟨hs1, hs2⟩ := List.pairwise_cons.1 hs
    obtain ⟨g1, g2⟩ := mrest_ok r [] s (can_mk (hp s (List.mem_cons_self ..)) (fun y hy => by cases hy) can_nil) hs1 hs2 (fun y hy => hp y (List.mem_cons_of_mem _ hy))
    refine ⟨g1, fun p => ?_, ?_⟩
    · show Mem p (mrest [] s r) ↔ _
      rw [g2, List.nil_append, mem_one, mem_cons]
    · have := mrest_length r [] s
      show (mrest [] s r).length ≤ _
      simp only [List.length_nil, List.length_cons] at this ⊢; omega

/-! ### what is between them -/
def gl : Int → List S29 → List S29
  | _, [] => []
  | a, x :: r => if x.f0 > a then ⟨a, x.f0⟩ :: gl x.f1 r else gl x.f1 r
theorem gl_ok (E : Int) : ∀ (M : List S29) (a : Int), Can M → (∀ x, x ∈ M → a ≤ x.f0) → (∀ x, x ∈ M → x.f1 ≤ E) → a ≤ E →
    Can (gl a (M ++ [⟨E, 0⟩])) ∧ (∀ x, x ∈ gl a (M ++ [⟨E, 0⟩]) → a ≤ x.f0) ∧ (∀ p, Mem p (gl a (M ++ [⟨E, 0⟩])) ↔ a ≤ p ∧ p < E ∧ ¬ Mem p M) ∧ Len (gl a (M ++ [⟨E, 0⟩])) + Len M = E - a ∧ (gl a (M ++ [⟨E, 0⟩])).length ≤ M.length + 1
  | [], a, _, _, _, hE => by
    rw [List.nil_append, gl]
    by_cases c : E > a
    · rw [if_pos c, gl]
      refine ⟨can_mk c (fun y hy => by cases hy) can_nil, fun x hx => ?_, fun p => ?_, by simp [Len], by simp⟩
      · obtain rfl := List.mem_singleton.1 hx; exact Int.le_refl _
      · rw [mem_one]; exact ⟨fun h => ⟨h.1, h.2, mem_nil p⟩, fun h => ⟨h.1, h.2.1⟩⟩
    · rw [if_neg c, gl]
      refine ⟨can_nil, (fun x hx => by cases hx), fun p => ⟨fun h => absurd h (mem_nil p), fun h => by omega⟩, by simp [Len]; omega, by simp⟩
  | x :: r, a, hc, ha, hb, hE => by
    obtain ⟨c1, c2, c3⟩ := can_cons hc
    have h0 := ha x (List.mem_cons_self ..)
    have h1 := hb x (List.mem_cons_self ..)
    obtain ⟨g1, g2, g3, g4, g5⟩ := gl_ok E r x.f1 c3 (fun y hy => Int.le_of_lt (c2 y hy)) (fun y hy => hb y (List.mem_cons_of_mem _ hy)) h1
    have hr : ∀ p, Mem p r → x.f1 < p := by
      rintro p ⟨z, hz, k1, k2⟩
      have := c2 z hz; omega
    rw [List.cons_append, gl]
    by_cases c : x.f0 > a
    · rw [if_pos c]
      refine ⟨can_mk c (fun y hy => by have := g2 y hy; show x.f0 < y.f0; omega) g1, fun y hy => ?_, fun p => ?_, ?_, by simp only [List.length_cons]; omega⟩
      · rcases List.mem_cons.1 hy with rfl | hy
        · exact Int.le_refl _
        · have := g2 y hy; omega
      · rw [mem_cons, mem_cons, g3]
        show (a ≤ p ∧ p < x.f0) ∨ _ ↔ _
        have := hr p
        constructor
        · rintro (h | ⟨k1, k2, k3⟩)
          · refine ⟨h.1, by omega, fun hh => ?_⟩
            rcases hh with hh | hh
            · omega
            · have := this hh; omega
          · refine ⟨by omega, k2, fun hh => ?_⟩
            rcases hh with hh | hh
            · omega
            · exact k3 hh
        · rintro ⟨k1, k2, k3⟩
          by_cases q : p < x.f0
          · exact .inl ⟨k1, q⟩
          · refine .inr ⟨?_, k2, fun hh => k3 (.inr hh)⟩
            by_cases q2 : p < x.f1
            · exact absurd (.inl ⟨by omega, q2⟩) k3
            · omega
      · rw [Len, Len]; show (x.f0 - a) + _ + _ = _; omega
    · rw [if_neg c]
      refine ⟨g1, fun y hy => by have := g2 y hy; omega, fun p => ?_, ?_, by simp only [List.length_cons]; omega⟩
      · rw [mem_cons, g3]
        have := hr p
        constructor
        · rintro ⟨k1, k2, k3⟩
          refine ⟨by omega, k2, fun hh => ?_⟩
          rcases hh with hh | hh
          · omega
          · exact k3 hh
        · rintro ⟨k1, k2, k3⟩
          refine ⟨?_, k2, fun hh => k3 (.inr hh)⟩
          by_cases q2 : p < x.f1
          · exact absurd (.inl ⟨by omega, q2⟩) k3
          · omega
      · rw [Len]; omega

/-! ### from place to place -/
def bc (a : Int) : List S29 → Nat
  | [] => 0
  | x :: r => (if a < x.f0 then 1 else 0) + (if a < x.f1 then 1 else 0) + bc a r
theorem bc_le (a : Int) : ∀ l : List S29, bc a l ≤ 2 * l.length
  | [] => by simp [bc]
  | x :: r => by
    have := bc_le a r
    rw [bc, List.length_cons]
    split <;> split <;> omega
theorem bc_mono {a t : Int} (h : a ≤ t) : ∀ l : List S29, bc t l ≤ bc a l
  | [] => Nat.le_refl _
  | x :: r => by
    have := bc_mono h r
    rw [bc, bc]
    split <;> split <;> split <;> split <;> omega
theorem bc_lt {a t : Int} (h : a < t) : ∀ l : List S29, (∃ x, x ∈ l ∧ (x.f0 = t ∨ x.f1 = t)) → bc t l < bc a l
  | [], ⟨x, hx, _⟩ => by cases hx
  | x :: r, ⟨y, hy, e⟩ => by
    have hm := bc_mono (Int.le_of_lt h) r
    rw [bc, bc]
    rcases List.mem_cons.1 hy with rfl | hy
    · split <;> split <;> split <;> split <;> omega
    · have := bc_lt h r ⟨y, hy, e⟩
      split <;> split <;> split <;> split <;> omega
/-- Between two places, one behind the other, at which something begins or ends, all positions are alike. -/
theorem alike {l : List S29} {a t : Int} (h : ∀ x, x ∈ l → (a < x.f0 → t ≤ x.f0) ∧ (a < x.f1 → t ≤ x.f1)) (p : Int) (h1 : a ≤ p) (h2 : p < t) : Mem p l ↔ Mem a l := by
  constructor
  · rintro ⟨x, hx, k1, k2⟩
    obtain ⟨q1, q2⟩ := h x hx
    refine ⟨x, hx, ?_, by omega⟩
    by_cases c : a < x.f0
    · have := q1 c; omega
    · omega
  · rintro ⟨x, hx, k1, k2⟩
    obtain ⟨q1, q2⟩ := h x hx
    exact ⟨x, hx, by omega, by have := q2 k2; omega⟩
/-- How many hit a position. -/
def cnt (p : Int) : List S29 → Nat
  | [] => 0
  | x :: r => (if x.f0 ≤ p ∧ p < x.f1 then 1 else 0) + cnt p r
theorem cnt_le (p : Int) : ∀ l : List S29, cnt p l ≤ l.length
  | [] => Nat.le_refl _
  | x :: r => by
    have := cnt_le p r
    rw [cnt, List.length_cons]
    split <;> omega
theorem cnt_pos (p : Int) : ∀ l : List S29, 0 < cnt p l ↔ Mem p l
  | [] => ⟨fun h => absurd h (by simp [cnt]), fun h => absurd h (mem_nil p)⟩
  | x :: r => by
    rw [cnt, mem_cons, ← cnt_pos p r]
    split
    · next c => exact ⟨fun _ => .inl c, fun _ => by omega⟩
    · next c => exact ⟨fun h => .inr (by omega), fun h => h.elim (fun h => absurd h c) (fun h => by omega)⟩
end Go.Proofs.Ytaeaacdjiijooaa.Pr

/- Plain: what draw.whole, draw.Gaps, draw.Reach, draw.Hits compute (out of PureDrawGaps). -/
namespace Go.Proofs.Ytaeaacdjiijooaa.Pr
open Go.RowKit Go.Proofs.YtaeaacdjiijooaaW.PrintWords Go.Proofs.YtaeaacdjiijooaaW.PrintLast Go.Proofs.YtaeaacdjiijooaaW.PrintMore
set_option linter.unusedVariables false

theorem g_wrap_u64 (n : Int) : IntKind.u64.wrap n = n % 18446744073709551616 := by simp [IntKind.wrap, IntKind.bits, IntKind.signed]
theorem g_u64_bd {a : Int} (h : (Lit.int .u64 a).wf = true) : 0 ≤ a ∧ a < 18446744073709551616 := by
  simp [Lit.wf, IntKind.min, IntKind.max, IntKind.signed, IntKind.bits] at h
  omega
theorem g_pow_nat (h : Nat) (hh : h ≤ 63) : 1 ≤ 2 ^ h ∧ 2 ^ h ≤ 9223372036854775808 := by
  have h1 : (1 : Nat) ≤ 2 ^ h := Nat.one_le_two_pow
  have h2 : (2 : Nat) ^ h ≤ 2 ^ 63 := Nat.pow_le_pow_right (by omega) hh
  have h4 : (2 : Nat) ^ 63 = 9223372036854775808 := by decide
  omega
theorem g_wrap_small {n : Int} (h0 : 0 ≤ n) (h : n < 18446744073709551616) : IntKind.u64.wrap n = n := by rw [g_wrap_u64]; omega
theorem g_shl (h : Nat) (hh : h ≤ 63) : shl .u64 1 (h : Int) = ((2 ^ h : Nat) : Int) := by
  have hb := g_pow_nat h hh
  unfold shl
  have : min ((h : Int).toNat) IntKind.u64.bits = h := by simp [IntKind.bits]; omega
  rw [this, Int.one_mul]
  have e : ((2 : Int) ^ h) = ((2 ^ h : Nat) : Int) := by simp
  rw [e]; exact g_wrap_small (by omega) (by omega)
theorem rd_at (l : List S29) (i : Nat) (h : i < l.length) : rd_T29 l (i : Int) = l[i] := by simp [rd_T29, h]
theorem w_succ {i : Nat} (h : i < 1000000) : wrap64 ((i : Int) + 1) = ((i + 1 : Nat) : Int) := by unfold wrap64; omega

/-- A span that may be, of height h. -/
def Good (E : Int) (x : S29) : Prop := x.f0 < x.f1 ∧ x.f1 ≤ E
theorem mayB_is (h : Nat) (hh : h ≤ 63) (x : S29) : mayB (h : Int) x = true ↔ Good ((2 ^ h : Nat) : Int) x := by
  have hh1 : cover_high.f (h : Int) = some true := by unfold cover_high.f; rw [if_pos (by omega)]; congr 1; simp; omega
  unfold mayB cover_May.f Good
  rw [hh1]
  simp only [Option.bind_some, if_true]
  by_cases c : x.f0 < x.f1
  · rw [if_pos c, if_pos (by omega), g_shl h hh]
    simp only [beq_iff_eq, Option.some.injEq, decide_eq_true_eq]
    exact ⟨fun k => ⟨c, k⟩, fun k => k.2⟩
  · rw [if_neg c]
    simp only [beq_iff_eq, Option.some.injEq]
    exact ⟨fun k => absurd k (by simp), fun k => absurd k.1 c⟩
theorem merge_loop (l : List S29) (hl : l.length ≤ 3000) : ∀ (d k i : Nat) (init : List S29) (z : S29), l.length - i = d → i ≤ l.length → d < k → init.length + d ≤ 3000 →
    draw_merge.l0 k (init ++ [z]) l (l.length : Int) (i : Int) = some (mrest init z (l.drop i), 0) := by
  intro d
  induction d with
  | zero =>
    intro k i init z h1 h2 hk hi
    obtain ⟨k, rfl⟩ : ∃ m, k = m + 1 := ⟨k - 1, by omega⟩
    obtain rfl : i = l.length := by omega
    rw [draw_merge.l0, if_neg (by omega), List.drop_length, mrest]
  | succ d ih =>
    intro k i init z h1 h2 hk hi
    obtain ⟨k, rfl⟩ : ∃ m, k = m + 1 := ⟨k - 1, by omega⟩
    have hil : i < l.length := by omega
    have hlen : (init ++ [z]).length = init.length + 1 := by simp
    have ew : wrap64 (((init ++ [z]).length : Int) - 1) = (init.length : Int) := by rw [hlen]; unfold wrap64; omega
    have ez : rd_T29 (init ++ [z]) (init.length : Int) = z := by rw [rd_at _ _ (by omega)]; simp
    rw [draw_merge.l0, ew, ez, rd_at l i hil, if_pos (by omega), if_pos (by omega), if_pos (by omega), if_pos (by omega), if_pos (by omega), if_pos (by omega), w_succ (by omega), List.drop_eq_getElem_cons hil, mrest]
    by_cases c : l[i].f0 ≤ z.f1
    · rw [if_pos c, if_pos c, Int.toNat_natCast]
      have es : ∀ v : S29, (init ++ [z]).set init.length v = init ++ [v] := fun v => by rw [List.set_append_right _ _ (Nat.le_refl _)]; simp
      rw [es]
      exact ih k (i + 1) init _ (by omega) (by omega) (by omega) (by omega)
    · rw [if_neg c, if_neg c, if_pos (by omega)]
      exact ih k (i + 1) (init ++ [z]) l[i] (by omega) (by omega) (by omega) (by rw [hlen]; omega)
theorem merge_is (l : List S29) (k : Nat) (hl : l.length ≤ 2500) (hk : l.length + 1 < k) : draw_merge.l0 k [] l (l.length : Int) 0 = some (mall l, 0) := by
  obtain ⟨k, rfl⟩ : ∃ m, k = m + 1 := ⟨k - 1, by omega⟩
  cases l with
  | nil => rw [draw_merge.l0]; rfl
  | cons s r =>
    have e0 : wrap64 ((([] : List S29).length : Int) - 1) = -1 := by simp [wrap64]
    have e1 : wrap64 (0 + 1) = ((1 : Nat) : Int) := by unfold wrap64; omega
    have er : rd_T29 (s :: r) 0 = s := rfl
    rw [draw_merge.l0, e0, er, e1, if_pos (by simp only [List.length_cons]; omega), if_pos (by omega), if_pos (by simp only [List.length_cons]; omega), if_neg (by omega), if_pos (by decide)]
    exact merge_loop (s :: r) (by simp only [List.length_cons] at hl ⊢; omega) _ k 1 [] s rfl (by simp) (by simp only [List.length_cons] at hk ⊢; omega) (by simp only [List.length_cons, List.length_nil] at hl ⊢; omega)

theorem spSort_good (l : List S29) {E : Int} (hg : ∀ x, x ∈ l → Good E x) : Can (mall (spSort l)) ∧ (∀ p, Mem p (mall (spSort l)) ↔ Mem p l) ∧ (mall (spSort l)).length ≤ l.length := by
  obtain ⟨h1, h2, h3⟩ := spSort_sorts l
  obtain ⟨g1, g2, g3⟩ := mall_ok (spSort l) h3 (fun s hs => (hg s (h2.mem_iff.1 hs)).1)
  refine ⟨g1, fun p => (g2 p).trans ⟨?_, ?_⟩, by omega⟩
  · rintro ⟨x, hx, h⟩; exact ⟨x, h2.mem_iff.1 hx, h⟩
  · rintro ⟨x, hx, h⟩; exact ⟨x, h2.mem_iff.2 hx, h⟩
theorem whole_good (k h : Nat) (hh : h ≤ 63) (l : List S29) (hl : l.length ≤ 60) (hk : 100 ≤ k) (hg : ∀ x, x ∈ l → Good ((2 ^ h : Nat) : Int) x) : draw_whole.f k (h : Int) l = some (mall (spSort l), 0) := by
  obtain ⟨h1, _, _⟩ := spSort_sorts l
  have hb : (l.any fun x => !mayB (h : Int) x) = false := by
    rw [List.any_eq_false]
    intro x hx
    rw [(mayB_is h hh x).2 (hg x hx)]; simp
  rw [draw_whole.f, if_pos (by omega), if_pos (by omega), hb, if_neg (by simp)]
  exact merge_is _ k (by omega) (by omega)
theorem whole_bad (k h : Nat) (hh : h ≤ 63) (l : List S29) (hl : l.length ≤ 60) (hg : ¬ ∀ x, x ∈ l → Good ((2 ^ h : Nat) : Int) x) : draw_whole.f k (h : Int) l = some ([], 200) := by
  have hb : (l.any fun x => !mayB (h : Int) x) = true := by
    apply Classical.byContradiction; intro hc
    apply hg; intro x hx
    rw [Bool.not_eq_true, List.any_eq_false] at hc
    have := hc x hx
    exact (mayB_is h hh x).1 (by simpa using this)
  rw [draw_whole.f, if_pos (by omega), if_pos (by omega), if_pos hb]

/-! ### the program: what is between; how many -/
theorem gaps_loop (y : List S29) (hl : y.length ≤ 1000) : ∀ (d k i : Nat) (out : List S29) (a : Int), y.length - i = d → i ≤ y.length → d < k → out.length + d ≤ 3000 →
    draw_Gaps.l0 k out a y (y.length : Int) (i : Int) = some (out ++ gl a (y.drop i), 0) := by
  intro d
  induction d with
  | zero =>
    intro k i out a h1 h2 hk hi
    obtain ⟨k, rfl⟩ : ∃ m, k = m + 1 := ⟨k - 1, by omega⟩
    obtain rfl : i = y.length := by omega
    rw [draw_Gaps.l0, if_neg (by omega), List.drop_length, gl, List.append_nil]
  | succ d ih =>
    intro k i out a h1 h2 hk hi
    obtain ⟨k, rfl⟩ : ∃ m, k = m + 1 := ⟨k - 1, by omega⟩
    have hil : i < y.length := by omega
    rw [draw_Gaps.l0, rd_at y i hil, if_pos (by omega), if_pos (by omega), if_pos (by omega), w_succ (by omega), List.drop_eq_getElem_cons hil, gl]
    by_cases c : y[i].f0 > a
    · rw [if_pos c, if_pos c, if_pos (by omega), ih k (i + 1) _ _ (by omega) (by omega) (by omega) (by simp; omega)]
      simp
    · rw [if_neg c, if_neg c, ih k (i + 1) _ _ (by omega) (by omega) (by omega) (by omega)]
theorem reach_loop (M : List S29) (e : Int) (hl : M.length ≤ 1000) (hM : ∀ x, x ∈ M → x.f0 < x.f1) : ∀ (d k i : Nat) (s : Int), M.length - i = d → i ≤ M.length → d < k → 0 ≤ s → s + Len (M.drop i) ≤ 9223372036854775808 →
    draw_Reach.l0 k e s M (M.length : Int) (i : Int) = some (s + Len (M.drop i), e) := by
  intro d
  induction d with
  | zero =>
    intro k i s h1 h2 hk hs hb
    obtain ⟨k, rfl⟩ : ∃ m, k = m + 1 := ⟨k - 1, by omega⟩
    obtain rfl : i = M.length := by omega
    rw [draw_Reach.l0, if_neg (by omega), List.drop_length, Len, Int.add_zero]
  | succ d ih =>
    intro k i s h1 h2 hk hs hb
    obtain ⟨k, rfl⟩ : ∃ m, k = m + 1 := ⟨k - 1, by omega⟩
    have hil : i < M.length := by omega
    have hx := hM M[i] (List.getElem_mem hil)
    have hn := len_nonneg (M.drop (i + 1)) (fun x hx => hM x (List.mem_of_mem_drop hx))
    rw [List.drop_eq_getElem_cons hil, Len] at hb ⊢
    rw [draw_Reach.l0, rd_at M i hil, if_pos (by omega), if_pos (by omega), if_pos (by omega), w_succ (by omega), g_wrap_small (n := M[i].f1 - M[i].f0) (by omega) (by omega), g_wrap_small (by omega) (by omega), ih k (i + 1) _ (by omega) (by omega) (by omega) (by omega) (by omega)]
    congr 2; omega
theorem hits_loop (p : Int) (l : List S29) (hl : l.length ≤ 1000) : ∀ (d k i c : Nat), l.length - i = d → i ≤ l.length → d < k → c + d ≤ 3000 → draw_Hits.l0 k p (c : Int) l (l.length : Int) (i : Int) = some ((c + cnt p (l.drop i) : Nat) : Int) := by
  intro d
  induction d with
  | zero =>
    intro k i c h1 h2 hk hc
    obtain ⟨k, rfl⟩ : ∃ m, k = m + 1 := ⟨k - 1, by omega⟩
    obtain rfl : i = l.length := by omega
    rw [draw_Hits.l0, if_neg (by omega), List.drop_length, cnt, Nat.add_zero]
  | succ d ih =>
    intro k i c h1 h2 hk hc
    obtain ⟨k, rfl⟩ : ∃ m, k = m + 1 := ⟨k - 1, by omega⟩
    have hil : i < l.length := by omega
    rw [draw_Hits.l0, rd_at l i hil, if_pos (by omega), if_pos (by omega), if_pos (by omega), w_succ (i := i) (by omega), w_succ (i := c) (by omega), List.drop_eq_getElem_cons hil, cnt]
    by_cases c1 : p ≥ l[i].f0
    · rw [if_pos c1]
      by_cases c2 : p < l[i].f1
      · rw [if_pos c2, if_pos ⟨c1, c2⟩, ih k (i + 1) _ (by omega) (by omega) (by omega) (by omega)]; congr 1; omega
      · rw [if_neg c2, if_neg (fun h => c2 h.2), ih k (i + 1) _ (by omega) (by omega) (by omega) (by omega)]; congr 1; omega
    · rw [if_neg c1, if_neg (fun h => c1 h.1), ih k (i + 1) _ (by omega) (by omega) (by omega) (by omega)]; congr 1; omega

/-! ### the reference -/
end Go.Proofs.Ytaeaacdjiijooaa.Pr

/- An argument that is a slice of spans, opened as a list; the law's walk. -/
namespace Go.Proofs.Ytaeaacdjiijooaa.Pr
open Go.RowKit Go.Proofs.YtaeaacdjiijooaaW.PrintWords Go.Proofs.YtaeaacdjiijooaaW.PrintLast Go.Proofs.YtaeaacdjiijooaaW.PrintMore Go.ChangeShapes Go.WideShapes
def PairRow (W : World) (a : Option Addr) (len cap : Nat) (zs : List S29) : Prop :=
  zs.length = len ∧ len ≤ cap ∧ Kd.C k29 W a len zs ∧ ∀ x, x ∈ zs → (Lit.int .u64 x.f0).wf = true ∧ (Lit.int .u64 x.f1).wf = true
set_option maxRecDepth 100000 in
theorem pair_row {H : Type} {enc : TypeId × Value → H} {W : World} {base : Nat} {spare : Nat → Bool} {held : Bool} {fuel : Nat} {a : Option Addr} {len cap : Nat} {d : DataW H × List MemPlace}
    (hf : DataW.trod enc Try.prog W base spare held fuel 36 (Value.slice a len cap).cells.toList = some d) : ∃ zs, PairRow W a len cap zs := by
  rcases Go.Deep.open_slice_pairs Try.underlying36 Try.underlying29 (by kernel_rfl) rfl rfl (by kernel_rfl) (by kernel_rfl) hf with ⟨hcs, _⟩ | ⟨x, l, c, m, n, V0, V1, D0, D1, P0, P1, hcs, hb, hl, hm, hmm, _, hcell⟩
  · simp [Value.cells] at hcs
    obtain ⟨rfl, rfl, rfl⟩ := hcs
    exact ⟨[], rfl, Nat.le_refl _, ⟨rfl, by decide, fun h => absurd h (by decide)⟩, fun x hx => by cases hx⟩
  · simp [Value.cells] at hcs
    obtain ⟨rfl, rfl, rfl⟩ := hcs
    have hlm : len ≤ m := by rw [hmm]; split <;> omega
    have each : ∀ i, i < len → ∃ q : S29, W.cell? (x.add (i * 2)) = some (.int .u64 q.f0) ∧ W.cell? (x.add (i * 2 + 1)) = some (.int .u64 q.f1) ∧ (Lit.int .u64 q.f0).wf = true ∧ (Lit.int .u64 q.f1).wf = true := by
      intro i hi
      obtain ⟨h0, h1, r0, r1⟩ := hcell i (by omega)
      obtain ⟨n0, e0, _, w0⟩ := DataW.trod_int Try.underlying22 r0
      obtain ⟨n1, e1, _, w1⟩ := DataW.trod_int Try.underlying22 r1
      simp only [List.cons.injEq, and_true] at e0 e1
      exact ⟨⟨n0, n1⟩, by rw [h0, e0], by rw [h1, e1], w0, w1⟩
    obtain ⟨q, hq⟩ := Go.Deep.choose_lt each
    refine ⟨(List.range len).map q, by simp, hl, ⟨by simp, by simp only [maxLen] at hm; omega, fun _ => ⟨x, rfl, fun j p hp => ⟨[.int .u64 p.f0, .int .u64 p.f1], rfl, k29_mk W p, fun i u hu => ?_⟩⟩⟩, fun y hy => ?_⟩
    · rw [List.getElem?_map] at hp
      obtain ⟨j', hj', rfl⟩ := Option.map_eq_some_iff.1 hp
      obtain ⟨hj, rfl⟩ := List.getElem?_eq_some_iff.1 hj'
      rw [List.length_range] at hj
      simp only [List.getElem_range] at hu ⊢
      obtain ⟨k0, k1, _, _⟩ := hq j hj
      show W.cell? (x.add (j * 2 + i)) = some u
      match i, hu with
      | 0, hu => simp only [List.getElem?_cons_zero, Option.some.injEq] at hu; rw [← hu]; exact k0
      | 1, hu => simp only [List.getElem?_cons_succ, List.getElem?_cons_zero, Option.some.injEq] at hu; rw [← hu]; exact k1
      | i + 2, hu => simp at hu
    · obtain ⟨j, hj, rfl⟩ := List.mem_map.1 hy
      obtain ⟨_, _, k2, k3⟩ := hq j (List.mem_range.1 hj)
      exact ⟨k2, k3⟩
end Go.Proofs.Ytaeaacdjiijooaa.Pr
